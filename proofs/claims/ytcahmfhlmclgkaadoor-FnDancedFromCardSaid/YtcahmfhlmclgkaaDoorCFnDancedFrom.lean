/- The walk of the law FnDancedFrom on the ways on which it answers true (lines that the kit's print wrote, the other ways struck). -/
/- Walks of functions that the law reaches (lines that the kit's print wrote, over contracts of this session's own). -/
import Derived.Test.YtcahmfhlmclgkaaDoorPFnDancedFromx0
import Derived.Test.YtcahmfhlmclgkaaDoorPFnDancedFromx1
import Derived.Test.YtcahmfhlmclgkaaDoorPFnDancedFromx2
import Derived.Test.YtcahmfhlmclgkaaDoorPFnDancedFromx3
import Derived.Test.YtcahmfhlmclgkaaDoorPFnDancedFromx4
import Derived.Test.YtcahmfhlmclgkaaDoorPFnDancedFromx5
import Derived.Test.YtcahmfhlmclgkaaDoorPFnDancedFromx6
namespace Go.Proofs.YtcahmfhlmclgkaaDoor.PFnDancedFrom
open Go.RowKit Go.Proofs.YtcahmfhlmclgkaaDoorW.PrintWords Go.Proofs.YtcahmfhlmclgkaaDoorW.PrintLast Go.Proofs.YtcahmfhlmclgkaaDoorW.PrintMore
attribute [local go_sem] max2_int min2_int max_two min_two max_three min_three max_four min_four   -- for this text's walks alone
set_option linter.unusedVariables false
set_option linter.unusedSimpArgs false
theorem kb {Q P : Prop} (q : Q) (h : Q → P := by intro q_; (with_reducible repeat (first | refine blk_drewN ?_ _ | refine blk_drew ?_ | refine blk_alloc ?_ _)); exact q_) : P := h q
theorem kf1 {Q P : Prop} {N0 : Prop} (q : Q) (n0 : N0) (h : Q → N0 → P := by intro q_ m0_; (with_reducible repeat (first | refine blk_drewN ?_ _ | refine blk_drew ?_ | refine blk_alloc ?_ _ | refine blk_far ?_ m0_ _)); exact q_) : P := h q n0
theorem lb0 {Q P : Prop} (q : Q)  (h : Q → P := by intro q_ ; repeat (first | (with_reducible first | exact q_ | apply below_alloc | apply pw_below_drewN | apply below_drew1) | exact q_)) : P := h q 
theorem lb1 {Q P : Prop} {N0 : Prop} (q : Q) (n0 : N0) (h : Q → N0 → P := by intro q_ m0_; repeat (first | (with_reducible first | exact q_ | apply below_alloc | apply pw_below_drewN | apply below_drew1 | refine below_set ?_ m0_) | exact q_)) : P := h q n0
theorem lb2 {Q P : Prop} {N0 N1 : Prop} (q : Q) (n0 : N0) (n1 : N1) (h : Q → N0 → N1 → P := by intro q_ m0_ m1_; repeat (first | (with_reducible first | exact q_ | apply below_alloc | apply pw_below_drewN | apply below_drew1 | refine below_set ?_ m0_ | refine below_set ?_ m1_) | exact q_)) : P := h q n0 n1
theorem lb3 {Q P : Prop} {N0 N1 N2 : Prop} (q : Q) (n0 : N0) (n1 : N1) (n2 : N2) (h : Q → N0 → N1 → N2 → P := by intro q_ m0_ m1_ m2_; repeat (first | (with_reducible first | exact q_ | apply below_alloc | apply pw_below_drewN | apply below_drew1 | refine below_set ?_ m0_ | refine below_set ?_ m1_ | refine below_set ?_ m2_) | exact q_)) : P := h q n0 n1 n2
theorem lb4 {Q P : Prop} {N0 N1 N2 N3 : Prop} (q : Q) (n0 : N0) (n1 : N1) (n2 : N2) (n3 : N3) (h : Q → N0 → N1 → N2 → N3 → P := by intro q_ m0_ m1_ m2_ m3_; repeat (first | (with_reducible first | exact q_ | apply below_alloc | apply pw_below_drewN | apply below_drew1 | refine below_set ?_ m0_ | refine below_set ?_ m1_ | refine below_set ?_ m2_ | refine below_set ?_ m3_) | exact q_)) : P := h q n0 n1 n2 n3
theorem lb5 {Q P : Prop} {N0 N1 N2 N3 N4 : Prop} (q : Q) (n0 : N0) (n1 : N1) (n2 : N2) (n3 : N3) (n4 : N4) (h : Q → N0 → N1 → N2 → N3 → N4 → P := by intro q_ m0_ m1_ m2_ m3_ m4_; repeat (first | (with_reducible first | exact q_ | apply below_alloc | apply pw_below_drewN | apply below_drew1 | refine below_set ?_ m0_ | refine below_set ?_ m1_ | refine below_set ?_ m2_ | refine below_set ?_ m3_ | refine below_set ?_ m4_) | exact q_)) : P := h q n0 n1 n2 n3 n4
theorem lb6 {Q P : Prop} {N0 N1 N2 N3 N4 N5 : Prop} (q : Q) (n0 : N0) (n1 : N1) (n2 : N2) (n3 : N3) (n4 : N4) (n5 : N5) (h : Q → N0 → N1 → N2 → N3 → N4 → N5 → P := by intro q_ m0_ m1_ m2_ m3_ m4_ m5_; repeat (first | (with_reducible first | exact q_ | apply below_alloc | apply pw_below_drewN | apply below_drew1 | refine below_set ?_ m0_ | refine below_set ?_ m1_ | refine below_set ?_ m2_ | refine below_set ?_ m3_ | refine below_set ?_ m4_ | refine below_set ?_ m5_) | exact q_)) : P := h q n0 n1 n2 n3 n4 n5
theorem eqA25 (d : Nat) (w : World) (x0 y0 : Int) (x1 y1 : Int) :
    (Op.equalIn (d + 2) 25 (.agg #[.int .i64 x0, .int .i64 x1]) (.agg #[.int .i64 y0, .int .i64 y1])).run Tryd.prog w = .ok (x0 == y0 && (x1 == y1)) w := by
  refine eqA_of Tryd.underlying25 (by kernel_rfl) ?_
  refine eqf_cons (by rfl) (by go_simp; rfl) (by go_simp; rfl) (by go_simp) ?_
  exact eqf_last (by rfl) (by go_simp; rfl) (by go_simp; rfl) (by go_simp)

attribute [local go_sem high] eqA25
/-! ### laws_FnDancedFrom: function 11 -/
def laws_FnDancedFrom.j0 : Nat → ByteArray → Bool → Bool → Int → Int → Int → Int → Option (Bool)
  | 0, _, _, _, _, _, _, _ => none
  | k + 1, x4, x6, x42, x237000, x237001, x241000, x241001 => if x42 = true then (some false) else (if x6 = true then ((impl_DancedFrom.f k x241000 x241001 (⟨#[82, 82]⟩ : ByteArray)).bind fun bt246 => ((impl_DancedFrom.f k x241000 x241001 (⟨#[84, 82, 84, 82, 84, 82]⟩ : ByteArray)).bind fun bt250 => ((impl_BackOf.f k x4).bind fun t254 => ((impl_DancedFrom.f k x241000 x241001 t254).bind fun bt255 => ((impl_FractionOk.f k x241000 x241001).bind fun t259 => (if t259 = true then (if bt246.2.2 = true then (if (bt246.1 == x241000 && (bt246.2.1 == x241001)) = true then (if bt250.2.2 = true then (if (bt250.1 == x241000 && (bt250.2.1 == x241001)) = true then (if bt255.2.2 = true then (some (bt255.1 == x237000 && (bt255.2.1 == x237001))) else (some false)) else (some false)) else (if bt255.2.2 = true then (some (bt255.1 == x237000 && (bt255.2.1 == x237001))) else (some false))) else (some false)) else (some false)) else (some false))))))) else (if (x241000 == 0 && (x241001 == 0)) = true then ((laws_alive.f k).bind fun t245 => (some t245)) else (some false)))
def laws_FnDancedFrom.f (k : Nat) (l0 : List Int) : Option (Bool) := if (l0.length : Int) > 1048576 then (some true) else ((spec_DrawDancedFrom.f k l0).bind fun bt233 => ((impl_DancedFrom.f k bt233.1 bt233.2.1 bt233.2.2).bind fun bt237 => ((spec_DancedFrom.f k bt233.1 bt233.2.1 bt233.2.2).bind fun bt241 => (if (!(bt237.1 == bt241.1) || (!(bt237.2.1 == bt241.2.1))) = true then (laws_FnDancedFrom.j0 k bt233.2.2 bt237.2.2 true bt233.1 bt233.2.1 bt237.1 bt237.2.1) else (laws_FnDancedFrom.j0 k bt233.2.2 bt237.2.2 (bt237.2.2 != bt241.2.2) bt233.1 bt233.2.1 bt237.1 bt237.2.1)))))
theorem laws_FnDancedFrom.mono_l : ∀ k, (∀ y0 y1 y2 y3 y4 y5 y6, LeO (laws_FnDancedFrom.j0 k y0 y1 y2 y3 y4 y5 y6) (laws_FnDancedFrom.j0 (k + 1) y0 y1 y2 y3 y4 y5 y6))
  | 0 => fun _ _ _ _ _ _ _ r h => by simp [laws_FnDancedFrom.j0] at h
  | k + 1 => by
    have ih0 := laws_FnDancedFrom.mono_l k
    · intro y0 y1 y2 y3 y4 y5 y6
      unfold laws_FnDancedFrom.j0
      repeat' first
      | (with_reducible exact ih0 _ _ _ _ _ _ _)
      | (with_reducible exact impl_BackOf.mono _ _)
      | (with_reducible exact impl_DancedFrom.mono _ _ _ _)
      | (with_reducible exact impl_FractionOk.mono _ _ _)
      | (with_reducible exact laws_alive.mono _)
      | (with_reducible exact spec_DancedFrom.mono _ _ _ _)
      | (with_reducible exact spec_DrawDancedFrom.mono _ _)
      | (with_reducible exact LeO.refl _)
      | (with_reducible exact LeO.none _)
      | (with_reducible refine LeO.ite ?_ ?_)
      | (with_reducible refine LeO.bind ?_ (fun _ => ?_))
      | exact ih0 _ _ _ _ _ _ _
      | exact impl_BackOf.mono _ _
      | exact impl_DancedFrom.mono _ _ _ _
      | exact impl_FractionOk.mono _ _ _
      | exact laws_alive.mono _
      | exact spec_DancedFrom.mono _ _ _ _
      | exact spec_DrawDancedFrom.mono _ _
      | exact LeO.none _
      | refine LeO.ite ?_ ?_
      | refine LeO.bind ?_ (fun _ => ?_)
theorem laws_FnDancedFrom.mono : ∀ a0 k, LeO (laws_FnDancedFrom.f k a0) (laws_FnDancedFrom.f (k + 1) a0) := by
  intro a0 k
  have ih0 := laws_FnDancedFrom.mono_l k
  unfold laws_FnDancedFrom.f
  repeat' first
      | (with_reducible exact ih0 _ _ _ _ _ _ _)
      | (with_reducible exact impl_BackOf.mono _ _)
      | (with_reducible exact impl_DancedFrom.mono _ _ _ _)
      | (with_reducible exact impl_FractionOk.mono _ _ _)
      | (with_reducible exact laws_alive.mono _)
      | (with_reducible exact spec_DancedFrom.mono _ _ _ _)
      | (with_reducible exact spec_DrawDancedFrom.mono _ _)
      | (with_reducible exact LeO.refl _)
      | (with_reducible exact LeO.none _)
      | (with_reducible refine LeO.ite ?_ ?_)
      | (with_reducible refine LeO.bind ?_ (fun _ => ?_))
      | exact ih0 _ _ _ _ _ _ _
      | exact impl_BackOf.mono _ _
      | exact impl_DancedFrom.mono _ _ _ _
      | exact impl_FractionOk.mono _ _ _
      | exact laws_alive.mono _
      | exact spec_DancedFrom.mono _ _ _ _
      | exact spec_DrawDancedFrom.mono _ _
      | exact LeO.none _
      | refine LeO.ite ?_ ?_
      | refine LeO.bind ?_ (fun _ => ?_)
def laws_FnDancedFrom.T12 : Bool × List (List Nat × List Nat) := (true, [([], []), ([], []), ([1], [1]), ([0, 2, 2], [0, 2]), ([3], [3]), ([4], [4]), ([4], [4]), ([], []), ([7, 5, 3, 0, 1, 2, 3, 4, 5, 7], [5, 7]), ([6, 8, 0, 1, 2, 3, 4, 5, 6, 7, 8], [6])])
def laws_FnDancedFrom.B12 : List Nat := [0, 0, 2, 7, 15, 31, 31, 0, 191, 511]
theorem laws_FnDancedFrom.tab12 : rtab .any (opsOf Tryd.f11 12) = laws_FnDancedFrom.T12 := by kernel_rfl
theorem laws_FnDancedFrom.bits12 : waitsOk laws_FnDancedFrom.T12.2 laws_FnDancedFrom.B12 = true := by kernel_rfl
set_option maxHeartbeats 8000000 in
set_option maxRecDepth 100000 in
theorem laws_FnDancedFrom.calls (k : Nat) (A0 : Option Addr) (c0 : Nat) (l0 : List Int) (r : Bool) (hr : r = true) (w : World) (hr0 : Kd.C (Kd.int .u8) w A0 l0.length l0) (hc0 : l0.length ≤ c0) (h : laws_FnDancedFrom.f k l0 = some r) :
  Calls Tryd.prog 11 #[.slice A0 l0.length c0] w fun e w' => e = .returned (.bool r) ∧ Below w.heap.size w w' := by
 have hu25 := Tryd.underlying25
 have HR0 := Aside0.mk hr0
 have HC0 := Aside0.mk hc0
 clear hr0 hc0
 have HB := Aside0.mk (Below.refl w.heap.size w)
 have H : (if (l0.length : Int) > 1048576 then (some true) else ((spec_DrawDancedFrom.f k l0).bind fun bt233 => ((impl_DancedFrom.f k bt233.1 bt233.2.1 bt233.2.2).bind fun bt237 => ((spec_DancedFrom.f k bt233.1 bt233.2.1 bt233.2.2).bind fun bt241 => (if (!(bt237.1 == bt241.1) || (!(bt237.2.1 == bt241.2.1))) = true then (laws_FnDancedFrom.j0 k bt233.2.2 bt237.2.2 true bt233.1 bt233.2.1 bt237.1 bt237.2.1) else (laws_FnDancedFrom.j0 k bt233.2.2 bt237.2.2 (bt237.2.2 != bt241.2.2) bt233.1 bt233.2.1 bt237.1 bt237.2.1)))))) = some r := h
 clear h
 by_cases c2 : (l0.length : Int) > 1048576
 ·
  rw [if_pos c2] at H
  have c2b0 : decide (1048576 < (l0.length : Int)) = true := decide_eq_true c2
  have c2b1 : decide (1048576 < l0.length) = true := decide_eq_true (by omega)
  clear c2
  obtain rfl := Option.some.inj H
  go_enter Tryd.func11, Tryd.ntmps11
  go_wp2
  go_ret
  exact ⟨by first | rfl | (simp [errW_none, errW_some] <;> rfl) | (simp [*, errW_none, errW_some] <;> rfl), by repeat (first | (with_reducible first | exact HB.out | apply below_alloc | apply pw_below_drewN | apply below_drew1) | exact HB.out)⟩
 ·
  rw [if_neg c2] at H
  have c2b0 : decide (1048576 < (l0.length : Int)) = false := decide_eq_false c2
  have c2b1 : decide (1048576 < l0.length) = false := decide_eq_false (by omega)
  clear c2
  replace H := Option.bind_eq_some_iff.mp H
  obtain ⟨⟨t233, t234, t235⟩, A30, H⟩ := H
  replace H : ((impl_DancedFrom.f k t233 t234 t235).bind fun bt237 => ((spec_DancedFrom.f k t233 t234 t235).bind fun bt241 => (if (!(bt237.1 == bt241.1) || (!(bt237.2.1 == bt241.2.1))) = true then (laws_FnDancedFrom.j0 k t235 bt237.2.2 true t233 t234 bt237.1 bt237.2.1) else (laws_FnDancedFrom.j0 k t235 bt237.2.2 (bt237.2.2 != bt241.2.2) t233 t234 bt237.1 bt237.2.1)))) = some r := H
  have A3 := Aside0.mk A30
  clear A30
  replace H := Option.bind_eq_some_iff.mp H
  obtain ⟨⟨t237, t238, t239⟩, A40, H⟩ := H
  replace H : ((spec_DancedFrom.f k t233 t234 t235).bind fun bt241 => (if (!(t237 == bt241.1) || (!(t238 == bt241.2.1))) = true then (laws_FnDancedFrom.j0 k t235 t239 true t233 t234 t237 t238) else (laws_FnDancedFrom.j0 k t235 t239 (t239 != bt241.2.2) t233 t234 t237 t238))) = some r := H
  have A4 := Aside0.mk A40
  clear A40
  replace H := Option.bind_eq_some_iff.mp H
  obtain ⟨⟨t241, t242, t243⟩, A50, H⟩ := H
  replace H : (if (!(t237 == t241) || (!(t238 == t242))) = true then (laws_FnDancedFrom.j0 k t235 t239 true t233 t234 t237 t238) else (laws_FnDancedFrom.j0 k t235 t239 (t239 != t243) t233 t234 t237 t238)) = some r := H
  have A5 := Aside0.mk A50
  clear A50
  have HC6 := Aside0.mk H
  clear H
  go_enter Tryd.func11, Tryd.ntmps11
  go_upto_region 6 with (first | ((with_reducible refine gate_callee (f := 43) rfl ?_); refine goesL_ (some 20) rfl rfl Tryd.func43 (by kernel_rfl) rfl #[.slice A0 l0.length c0] rfl (by (try simp only [List.map_toArray, List.map_cons, List.map_nil]); first | done | rfl | (simp only [List.length_drop, List.length_take]; rfl)) ?_; (with_reducible refine (spec_DrawDancedFrom.calls k _ _ l0 t233 t234 t235 _ ?side1 ?side2 A3.out).mono ?_); (case side1 => repeat (first | exact HR0.out | (with_reducible refine Kd.C_alloc ?_ _) | (with_reducible refine Kd.C_drewN ?_ _) | (with_reducible refine Kd.C_drew ?_))); (case side2 => exact HC0.out); rintro e w7 ⟨rfl, hb⟩; refine ⟨_, rfl, ?_⟩; have n0_ := Aside0.mk (below_step (lb0 HB.out) hb); clear HB; have HB := n0_; clear n0_; (try clear hb); (try clear hb2); (try clear hk); (try clear hi)) | ((with_reducible refine gate_dst (N := 3) rfl ?_); refine box_event ?hg (N := 3) ?hd (cs := #[.int .i64 0, .int .i64 0]) (t := 25) ?hr ?_; (case hd => rfl); (case hg => rfl); (case hr => first | (go_simp; done) | (go_simp; rfl)); intro gb236 hg w8 hbox hb; have n0_ := Aside0.mk (below_step (lb0 HB.out) hb); have n1_ := Aside0.mk (hbox); have n2_ := Aside0.mk ((by rw [hg]; exact (below_size (lb0 HB.out)) : w.heap.size ≤ gb236)); have n3_ := Aside0.mk ((by rw [hg]; exact (below_size (lb0 HB.out)) : w.heap.size ≤ gb236)); clear HB; have HB := n0_; have BK236 := n1_; have GW236 := n2_; have GE236 := n3_; clear n0_ n1_ n2_ n3_; clear hb hbox hg; have hcz9_0 : w8.cell? ⟨gb236, 0, none⟩ = some (.int .i64 0) := (blk_cell BK236.out 0).trans rfl; have hcz9_1 : w8.cell? ⟨gb236, 1, none⟩ = some (.int .i64 0) := (blk_cell BK236.out 1).trans rfl; have hfz9_0 := blk_frozen BK236.out 0; have hfz9_1 := blk_frozen BK236.out 1) | ((with_reducible refine gate_callee (f := 19) rfl ?_); refine goesL_ (some 26) rfl rfl Tryd.func19 (by kernel_rfl) rfl #[.agg #[.int .i64 t233, .int .i64 t234], .string t235] rfl (by (try simp only [List.map_toArray, List.map_cons, List.map_nil]); first | done | rfl | (simp only [List.length_drop, List.length_take]; rfl)) ?_; (with_reducible refine (impl_DancedFrom.calls k t233 t234 t235 t237 t238 t239 _ A4.out).mono ?_); rintro e w10 ⟨rfl, hb⟩; refine ⟨_, rfl, ?_⟩; have n0_ := Aside0.mk (blk_below (g := gb236) (o := .cells #[.int .i64 t233, .int .i64 t234] 25 (0, 0)) (by (with_reducible repeat (first | refine blk_drewN ?_ _ | refine blk_drew ?_ | refine blk_alloc ?_ _)); refine blk_put (cs := #[.int .i64 t233, .int .i64 0]) ?_ 1 _ rfl; (with_reducible repeat (first | refine blk_drewN ?_ _ | refine blk_drew ?_ | refine blk_alloc ?_ _)); refine blk_put (cs := #[.int .i64 0, .int .i64 0]) ?_ 0 _ rfl; (with_reducible repeat (first | refine blk_drewN ?_ _ | refine blk_drew ?_ | refine blk_alloc ?_ _)); exact BK236.out) hb); have n1_ := Aside0.mk (below_step (lb1 HB.out GE236.out) hb); clear BK236; clear HB; have BK236 := n0_; have HB := n1_; clear n0_ n1_; (try clear hb); (try clear hb2); (try clear hk); (try clear hi)) | ((with_reducible refine gate_dst (N := 5) rfl ?_); refine box_event ?hg (N := 5) ?hd (cs := #[.int .i64 0, .int .i64 0]) (t := 25) ?hr ?_; (case hd => rfl); (case hg => rfl); (case hr => first | (go_simp; done) | (go_simp; rfl)); intro gb240 hg w11 hbox hb; have n0_ := Aside0.mk (blk_below (g := gb236) (o := .cells #[.int .i64 t233, .int .i64 t234] 25 (0, 0)) (kb BK236.out) hb); have n1_ := Aside0.mk (below_step (lb1 HB.out GE236.out) hb); have n2_ := Aside0.mk (hbox); have n3_ := Aside0.mk ((by rw [hg]; exact (below_size (lb1 HB.out GE236.out)) : w.heap.size ≤ gb240)); have n4_ := Aside0.mk ((by rw [hg]; exact (below_size (lb1 HB.out GE236.out)) : w.heap.size ≤ gb240)); have n5_ := Aside0.mk ((by rw [hg]; exact Nat.ne_of_lt (blk_lt (g := gb236) (o := .cells #[.int .i64 t233, .int .i64 t234] 25 (0, 0)) (kb BK236.out)) : gb236 ≠ gb240)); have n6_ := Aside0.mk ((by rw [hg]; exact Nat.ne_of_gt (blk_lt (g := gb236) (o := .cells #[.int .i64 t233, .int .i64 t234] 25 (0, 0)) (kb BK236.out)) : gb240 ≠ gb236)); clear BK236; clear HB; have BK236 := n0_; have HB := n1_; have BK240 := n2_; have GW240 := n3_; have GE240 := n4_; have NB236_240 := n5_; have NB240_236 := n6_; clear n0_ n1_ n2_ n3_ n4_ n5_ n6_; clear hb hbox hg; have hnb12 := NB240_236.out; have hnc12 := NB236_240.out; have hcz13_0 : w11.cell? ⟨gb240, 0, none⟩ = some (.int .i64 0) := (blk_cell BK240.out 0).trans rfl; have hcz13_1 : w11.cell? ⟨gb240, 1, none⟩ = some (.int .i64 0) := (blk_cell BK240.out 1).trans rfl; have hfz13_0 := blk_frozen BK240.out 0; have hfz13_1 := blk_frozen BK240.out 1; have hcz14_0 : w11.cell? ⟨gb236, 0, none⟩ = some (.int .i64 t233) := (blk_cell BK236.out 0).trans rfl; have hcz14_1 : w11.cell? ⟨gb236, 1, none⟩ = some (.int .i64 t234) := (blk_cell BK236.out 1).trans rfl; have hfz14_0 := blk_frozen BK236.out 0; have hfz14_1 := blk_frozen BK236.out 1) | ((with_reducible refine gate_callee (f := 17) rfl ?_); refine goesL_ (some 32) rfl rfl Tryd.func17 (by kernel_rfl) rfl #[.agg #[.int .i64 t233, .int .i64 t234], .string t235] rfl (by (try simp only [List.map_toArray, List.map_cons, List.map_nil]); first | done | rfl | (simp only [List.length_drop, List.length_take]; rfl)) ?_; (with_reducible refine (spec_DancedFrom.calls k t233 t234 t235 t241 t242 t243 _ A5.out).mono ?_); rintro e w15 ⟨rfl, hb⟩; refine ⟨_, rfl, ?_⟩; have n0_ := Aside0.mk (blk_below (g := gb236) (o := .cells #[.int .i64 t233, .int .i64 t234] 25 (0, 0)) (kf1 BK236.out NB236_240.out) hb); have n1_ := Aside0.mk (blk_below (g := gb240) (o := .cells #[.int .i64 t237, .int .i64 t238] 25 (0, 0)) (by (with_reducible repeat (first | refine blk_drewN ?_ _ | refine blk_drew ?_ | refine blk_alloc ?_ _)); refine blk_put (cs := #[.int .i64 t237, .int .i64 0]) ?_ 1 _ rfl; (with_reducible repeat (first | refine blk_drewN ?_ _ | refine blk_drew ?_ | refine blk_alloc ?_ _)); refine blk_put (cs := #[.int .i64 0, .int .i64 0]) ?_ 0 _ rfl; (with_reducible repeat (first | refine blk_drewN ?_ _ | refine blk_drew ?_ | refine blk_alloc ?_ _)); exact BK240.out) hb); have n2_ := Aside0.mk (below_step (lb2 HB.out GE236.out GE240.out) hb); clear BK236; clear BK240; clear HB; have BK236 := n0_; have BK240 := n1_; have HB := n2_; clear n0_ n1_ n2_; (try clear hb); (try clear hb2); (try clear hk); (try clear hi)) | ((with_reducible refine gate_dst (N := 7) rfl ?_); refine box_event ?hg (N := 7) ?hd (cs := #[.int .i64 0, .int .i64 0]) (t := 25) ?hr ?_; (case hd => rfl); (case hg => rfl); (case hr => first | (go_simp; done) | (go_simp; rfl)); intro gb244 hg w16 hbox hb; have n0_ := Aside0.mk (blk_below (g := gb236) (o := .cells #[.int .i64 t233, .int .i64 t234] 25 (0, 0)) (kb BK236.out) hb); have n1_ := Aside0.mk (blk_below (g := gb240) (o := .cells #[.int .i64 t237, .int .i64 t238] 25 (0, 0)) (kb BK240.out) hb); have n2_ := Aside0.mk (below_step (lb2 HB.out GE236.out GE240.out) hb); have n3_ := Aside0.mk (hbox); have n4_ := Aside0.mk ((by rw [hg]; exact (below_size (lb2 HB.out GE236.out GE240.out)) : w.heap.size ≤ gb244)); have n5_ := Aside0.mk ((by rw [hg]; exact (below_size (lb2 HB.out GE236.out GE240.out)) : w.heap.size ≤ gb244)); have n6_ := Aside0.mk ((by rw [hg]; exact Nat.ne_of_lt (blk_lt (g := gb236) (o := .cells #[.int .i64 t233, .int .i64 t234] 25 (0, 0)) (kb BK236.out)) : gb236 ≠ gb244)); have n7_ := Aside0.mk ((by rw [hg]; exact Nat.ne_of_gt (blk_lt (g := gb236) (o := .cells #[.int .i64 t233, .int .i64 t234] 25 (0, 0)) (kb BK236.out)) : gb244 ≠ gb236)); have n8_ := Aside0.mk ((by rw [hg]; exact Nat.ne_of_lt (blk_lt (g := gb240) (o := .cells #[.int .i64 t237, .int .i64 t238] 25 (0, 0)) (kb BK240.out)) : gb240 ≠ gb244)); have n9_ := Aside0.mk ((by rw [hg]; exact Nat.ne_of_gt (blk_lt (g := gb240) (o := .cells #[.int .i64 t237, .int .i64 t238] 25 (0, 0)) (kb BK240.out)) : gb244 ≠ gb240)); clear BK236; clear BK240; clear HB; have BK236 := n0_; have BK240 := n1_; have HB := n2_; have BK244 := n3_; have GW244 := n4_; have GE244 := n5_; have NB236_244 := n6_; have NB244_236 := n7_; have NB240_244 := n8_; have NB244_240 := n9_; clear n0_ n1_ n2_ n3_ n4_ n5_ n6_ n7_ n8_ n9_; clear hb hbox hg; have hnb17 := NB244_236.out; have hnc17 := NB236_244.out; have hnb18 := NB244_240.out; have hnc18 := NB240_244.out; have hcz19_0 : w16.cell? ⟨gb244, 0, none⟩ = some (.int .i64 0) := (blk_cell BK244.out 0).trans rfl; have hcz19_1 : w16.cell? ⟨gb244, 1, none⟩ = some (.int .i64 0) := (blk_cell BK244.out 1).trans rfl; have hfz19_0 := blk_frozen BK244.out 0; have hfz19_1 := blk_frozen BK244.out 1))
  (try simp only [Act.put, List.setIfInBounds_toArray, List.set_cons_zero, List.set_cons_succ])
  go_cut [42] (fun v42 wc => ∃ (kq : Nat) (x42_5 : Bool), v42 = .bool x42_5 ∧ Aside0 (laws_FnDancedFrom.j0 kq t235 t239 x42_5 t233 t234 t237 t238 = some r) ∧ Aside0 (kq ≤ k) ∧ Aside0 (wc.heap[gb236]? = some (.cells #[.int .i64 t233, .int .i64 t234] 25 (0, 0))) ∧ Aside0 (wc.heap[gb240]? = some (.cells #[.int .i64 t237, .int .i64 t238] 25 (0, 0))) ∧ Aside0 (wc.heap[gb244]? = some (.cells #[.int .i64 t241, .int .i64 t242] 25 (0, 0))) ∧ Aside0 (Below w.heap.size w wc))
  case first =>
   have H := HC6.out
   clear HC6
   by_cases c20 : (!(t237 == t241) || (!(t238 == t242))) = true
   ·
    rw [if_pos c20] at H
    have c20b0 : (!(t237 == t241) || (!(t238 == t242))) = true := c20
    clear c20
    (first | rw [c20b0] | (simp only [i64_w, i32_w]; rw [c20b0]) | skip)
    have H' := Aside0.mk H
    clear H
    have hnb21 := NB240_236.out
    have hnc21 := NB236_240.out
    have hnb22 := NB240_244.out
    have hnc22 := NB244_240.out
    have hcz23_0 : w16.cell? ⟨gb240, 0, none⟩ = some (.int .i64 t237) := (blk_cell BK240.out 0).trans rfl
    have hcz23_1 : w16.cell? ⟨gb240, 1, none⟩ = some (.int .i64 t238) := (blk_cell BK240.out 1).trans rfl
    have hfz23_0 := blk_frozen BK240.out 0
    have hfz23_1 := blk_frozen BK240.out 1
    have hnb24 := NB244_236.out
    have hnc24 := NB236_244.out
    have hcz25_0 : w16.cell? ⟨gb244, 0, none⟩ = some (.int .i64 0) := (blk_cell BK244.out 0).trans rfl
    have hcz25_1 : w16.cell? ⟨gb244, 1, none⟩ = some (.int .i64 0) := (blk_cell BK244.out 1).trans rfl
    have hfz25_0 := blk_frozen BK244.out 0
    have hfz25_1 := blk_frozen BK244.out 1
    go_wp2
    go_meet
    case rel => exact ⟨_, (true), (by first | rfl | (simp; done) | (simp [*]; done)), H', ⟨by first | omega | exact Nat.le_refl _⟩, ⟨kf1 BK236.out NB236_244.out⟩, ⟨kf1 BK240.out NB240_244.out⟩, ⟨by (with_reducible repeat (first | refine blk_drewN ?_ _ | refine blk_drew ?_ | refine blk_alloc ?_ _)); refine blk_put (cs := #[.int .i64 t241, .int .i64 0]) ?_ 1 _ rfl; (with_reducible repeat (first | refine blk_drewN ?_ _ | refine blk_drew ?_ | refine blk_alloc ?_ _)); refine blk_put (cs := #[.int .i64 0, .int .i64 0]) ?_ 0 _ rfl; (with_reducible repeat (first | refine blk_drewN ?_ _ | refine blk_drew ?_ | refine blk_alloc ?_ _)); exact BK244.out⟩, ⟨by repeat (first | (with_reducible first | exact HB.out | apply below_alloc | apply pw_below_drewN | apply below_drew1 | refine below_set ?_ GE236.out | refine below_set ?_ GE240.out | refine below_set ?_ GE244.out) | exact HB.out)⟩⟩
   ·
    rw [if_neg c20] at H
    have c20b0 : (!(t237 == t241) || (!(t238 == t242))) = false := by simpa using c20
    clear c20
    (first | rw [c20b0] | (simp only [i64_w, i32_w]; rw [c20b0]) | skip)
    have H' := Aside0.mk H
    clear H
    have hnb26 := NB240_236.out
    have hnc26 := NB236_240.out
    have hnb27 := NB240_244.out
    have hnc27 := NB244_240.out
    have hcz28_0 : w16.cell? ⟨gb240, 0, none⟩ = some (.int .i64 t237) := (blk_cell BK240.out 0).trans rfl
    have hcz28_1 : w16.cell? ⟨gb240, 1, none⟩ = some (.int .i64 t238) := (blk_cell BK240.out 1).trans rfl
    have hfz28_0 := blk_frozen BK240.out 0
    have hfz28_1 := blk_frozen BK240.out 1
    have hnb29 := NB244_236.out
    have hnc29 := NB236_244.out
    have hcz30_0 : w16.cell? ⟨gb244, 0, none⟩ = some (.int .i64 0) := (blk_cell BK244.out 0).trans rfl
    have hcz30_1 : w16.cell? ⟨gb244, 1, none⟩ = some (.int .i64 0) := (blk_cell BK244.out 1).trans rfl
    have hfz30_0 := blk_frozen BK244.out 0
    have hfz30_1 := blk_frozen BK244.out 1
    go_wp2
    go_meet
    case rel => exact ⟨_, ((t239 != t243)), (by first | rfl | (simp; done) | (simp [*]; done)), H', ⟨by first | omega | exact Nat.le_refl _⟩, ⟨kf1 BK236.out NB236_244.out⟩, ⟨kf1 BK240.out NB240_244.out⟩, ⟨by (with_reducible repeat (first | refine blk_drewN ?_ _ | refine blk_drew ?_ | refine blk_alloc ?_ _)); refine blk_put (cs := #[.int .i64 t241, .int .i64 0]) ?_ 1 _ rfl; (with_reducible repeat (first | refine blk_drewN ?_ _ | refine blk_drew ?_ | refine blk_alloc ?_ _)); refine blk_put (cs := #[.int .i64 0, .int .i64 0]) ?_ 0 _ rfl; (with_reducible repeat (first | refine blk_drewN ?_ _ | refine blk_drew ?_ | refine blk_alloc ?_ _)); exact BK244.out⟩, ⟨by repeat (first | (with_reducible first | exact HB.out | apply below_alloc | apply pw_below_drewN | apply below_drew1 | refine below_set ?_ GE236.out | refine below_set ?_ GE240.out | refine below_set ?_ GE244.out) | exact HB.out)⟩⟩
  case rest =>
   clear HC6
   try clear c1
   try clear c2
   try clear c2b0
   try clear c2b1
   try clear p2
   try clear c4
   try clear c11
   try clear c12
   try clear c17
   try clear c18
   try clear c19
   try clear c20
   try clear c20b0
   try clear c21
   try clear c22
   try clear c24
   try clear c26
   try clear c27
   try clear c29
   try clear hcz13_0
   try clear hcz13_1
   try clear hcz14_0
   try clear hcz14_1
   try clear hcz19_0
   try clear hcz19_1
   try clear hcz23_0
   try clear hcz23_1
   try clear hcz25_0
   try clear hcz25_1
   try clear hcz28_0
   try clear hcz28_1
   try clear hcz30_0
   try clear hcz30_1
   try clear hcz9_0
   try clear hcz9_1
   try clear hfz13_0
   try clear hfz13_1
   try clear hfz14_0
   try clear hfz14_1
   try clear hfz19_0
   try clear hfz19_1
   try clear hfz23_0
   try clear hfz23_1
   try clear hfz25_0
   try clear hfz25_1
   try clear hfz28_0
   try clear hfz28_1
   try clear hfz30_0
   try clear hfz30_1
   try clear hfz9_0
   try clear hfz9_1
   obtain ⟨kq, x42_5, rfl, HA, HJ5, BK236, BK240, BK244, HB⟩ := hcut
   cases kq with
   | zero => exact absurd HA.out (by simp [laws_FnDancedFrom.j0])
   | succ kj5 =>
    have H := HA.out
    clear HA
    simp only [laws_FnDancedFrom.j0] at H
    by_cases c31 : x42_5 = true
    ·
     subst c31
     have H1 : (some false) = some r := by rw [if_pos rfl] at H; exact H
     clear H
     have H := H1
     clear H1
     exact absurd ((Option.some.inj H).trans hr) (by simp)
    ·
     replace c31 := Bool.eq_false_iff.mpr c31
     subst c31
     have H1 : (if t239 = true then ((impl_DancedFrom.f kj5 t237 t238 (⟨#[82, 82]⟩ : ByteArray)).bind fun bt246 => ((impl_DancedFrom.f kj5 t237 t238 (⟨#[84, 82, 84, 82, 84, 82]⟩ : ByteArray)).bind fun bt250 => ((impl_BackOf.f kj5 t235).bind fun t254 => ((impl_DancedFrom.f kj5 t237 t238 t254).bind fun bt255 => ((impl_FractionOk.f kj5 t237 t238).bind fun t259 => (if t259 = true then (if bt246.2.2 = true then (if (bt246.1 == t237 && (bt246.2.1 == t238)) = true then (if bt250.2.2 = true then (if (bt250.1 == t237 && (bt250.2.1 == t238)) = true then (if bt255.2.2 = true then (some (bt255.1 == t233 && (bt255.2.1 == t234))) else (some false)) else (some false)) else (if bt255.2.2 = true then (some (bt255.1 == t233 && (bt255.2.1 == t234))) else (some false))) else (some false)) else (some false)) else (some false))))))) else (if (t237 == 0 && (t238 == 0)) = true then ((laws_alive.f kj5).bind fun t245 => (some t245)) else (some false))) = some r := by rw [if_neg (show ¬ (false = true) by decide)] at H; exact H
     clear H
     have H := H1
     clear H1
     by_cases c32 : t239 = true
     ·
      subst c32
      have H1 : ((impl_DancedFrom.f kj5 t237 t238 (⟨#[82, 82]⟩ : ByteArray)).bind fun bt246 => ((impl_DancedFrom.f kj5 t237 t238 (⟨#[84, 82, 84, 82, 84, 82]⟩ : ByteArray)).bind fun bt250 => ((impl_BackOf.f kj5 t235).bind fun t254 => ((impl_DancedFrom.f kj5 t237 t238 t254).bind fun bt255 => ((impl_FractionOk.f kj5 t237 t238).bind fun t259 => (if t259 = true then (if bt246.2.2 = true then (if (bt246.1 == t237 && (bt246.2.1 == t238)) = true then (if bt250.2.2 = true then (if (bt250.1 == t237 && (bt250.2.1 == t238)) = true then (if bt255.2.2 = true then (some (bt255.1 == t233 && (bt255.2.1 == t234))) else (some false)) else (some false)) else (if bt255.2.2 = true then (some (bt255.1 == t233 && (bt255.2.1 == t234))) else (some false))) else (some false)) else (some false)) else (some false))))))) = some r := by rw [if_pos rfl] at H; exact H
      clear H
      have H := H1
      clear H1
      replace H := Option.bind_eq_some_iff.mp H
      obtain ⟨⟨t246, t247, t248⟩, A330, H⟩ := H
      replace H : ((impl_DancedFrom.f kj5 t237 t238 (⟨#[84, 82, 84, 82, 84, 82]⟩ : ByteArray)).bind fun bt250 => ((impl_BackOf.f kj5 t235).bind fun t254 => ((impl_DancedFrom.f kj5 t237 t238 t254).bind fun bt255 => ((impl_FractionOk.f kj5 t237 t238).bind fun t259 => (if t259 = true then (if t248 = true then (if (t246 == t237 && (t247 == t238)) = true then (if bt250.2.2 = true then (if (bt250.1 == t237 && (bt250.2.1 == t238)) = true then (if bt255.2.2 = true then (some (bt255.1 == t233 && (bt255.2.1 == t234))) else (some false)) else (some false)) else (if bt255.2.2 = true then (some (bt255.1 == t233 && (bt255.2.1 == t234))) else (some false))) else (some false)) else (some false)) else (some false)))))) = some r := H
      have A33 := Aside0.mk A330
      clear A330
      replace H := Option.bind_eq_some_iff.mp H
      obtain ⟨⟨t250, t251, t252⟩, A340, H⟩ := H
      replace H : ((impl_BackOf.f kj5 t235).bind fun t254 => ((impl_DancedFrom.f kj5 t237 t238 t254).bind fun bt255 => ((impl_FractionOk.f kj5 t237 t238).bind fun t259 => (if t259 = true then (if t248 = true then (if (t246 == t237 && (t247 == t238)) = true then (if t252 = true then (if (t250 == t237 && (t251 == t238)) = true then (if bt255.2.2 = true then (some (bt255.1 == t233 && (bt255.2.1 == t234))) else (some false)) else (some false)) else (if bt255.2.2 = true then (some (bt255.1 == t233 && (bt255.2.1 == t234))) else (some false))) else (some false)) else (some false)) else (some false))))) = some r := H
      have A34 := Aside0.mk A340
      clear A340
      replace H := Option.bind_eq_some_iff.mp H
      obtain ⟨t254, A350, H⟩ := H
      replace H : ((impl_DancedFrom.f kj5 t237 t238 t254).bind fun bt255 => ((impl_FractionOk.f kj5 t237 t238).bind fun t259 => (if t259 = true then (if t248 = true then (if (t246 == t237 && (t247 == t238)) = true then (if t252 = true then (if (t250 == t237 && (t251 == t238)) = true then (if bt255.2.2 = true then (some (bt255.1 == t233 && (bt255.2.1 == t234))) else (some false)) else (some false)) else (if bt255.2.2 = true then (some (bt255.1 == t233 && (bt255.2.1 == t234))) else (some false))) else (some false)) else (some false)) else (some false)))) = some r := H
      have A35 := Aside0.mk A350
      clear A350
      replace H := Option.bind_eq_some_iff.mp H
      obtain ⟨⟨t255, t256, t257⟩, A360, H⟩ := H
      replace H : ((impl_FractionOk.f kj5 t237 t238).bind fun t259 => (if t259 = true then (if t248 = true then (if (t246 == t237 && (t247 == t238)) = true then (if t252 = true then (if (t250 == t237 && (t251 == t238)) = true then (if t257 = true then (some (t255 == t233 && (t256 == t234))) else (some false)) else (some false)) else (if t257 = true then (some (t255 == t233 && (t256 == t234))) else (some false))) else (some false)) else (some false)) else (some false))) = some r := H
      have A36 := Aside0.mk A360
      clear A360
      replace H := Option.bind_eq_some_iff.mp H
      obtain ⟨t259, A370, H⟩ := H
      replace H : (if t259 = true then (if t248 = true then (if (t246 == t237 && (t247 == t238)) = true then (if t252 = true then (if (t250 == t237 && (t251 == t238)) = true then (if t257 = true then (some (t255 == t233 && (t256 == t234))) else (some false)) else (some false)) else (if t257 = true then (some (t255 == t233 && (t256 == t234))) else (some false))) else (some false)) else (some false)) else (some false)) = some r := H
      have A37 := Aside0.mk A370
      clear A370
      by_cases c38 : t259 = true
      ·
       subst c38
       have H1 : (if t248 = true then (if (t246 == t237 && (t247 == t238)) = true then (if t252 = true then (if (t250 == t237 && (t251 == t238)) = true then (if t257 = true then (some (t255 == t233 && (t256 == t234))) else (some false)) else (some false)) else (if t257 = true then (some (t255 == t233 && (t256 == t234))) else (some false))) else (some false)) else (some false)) = some r := by rw [if_pos rfl] at H; exact H
       clear H
       have H := H1
       clear H1
       by_cases c39 : t248 = true
       ·
        subst c39
        have H1 : (if (t246 == t237 && (t247 == t238)) = true then (if t252 = true then (if (t250 == t237 && (t251 == t238)) = true then (if t257 = true then (some (t255 == t233 && (t256 == t234))) else (some false)) else (some false)) else (if t257 = true then (some (t255 == t233 && (t256 == t234))) else (some false))) else (some false)) = some r := by rw [if_pos rfl] at H; exact H
        clear H
        have H := H1
        clear H1
        by_cases c40 : (t246 == t237 && (t247 == t238)) = true
        ·
         rw [if_pos c40] at H
         have c40b0 : (t246 == t237 && (t247 == t238)) = true := c40
         (try (have c40b1 : decide (t246 = t237 && (t247 == t238)) = true := by simpa using c40))
         (try (have c40b2 : (t246 == t237 && (t247 == t238)) = true := by simpa using c40))
         clear c40
         by_cases c41 : t252 = true
         ·
          subst c41
          have H1 : (if (t250 == t237 && (t251 == t238)) = true then (if t257 = true then (some (t255 == t233 && (t256 == t234))) else (some false)) else (some false)) = some r := by rw [if_pos rfl] at H; exact H
          clear H
          have H := H1
          clear H1
          by_cases c42 : (t250 == t237 && (t251 == t238)) = true
          ·
           rw [if_pos c42] at H
           have c42b0 : (t250 == t237 && (t251 == t238)) = true := c42
           (try (have c42b1 : decide (t250 = t237 && (t251 == t238)) = true := by simpa using c42))
           (try (have c42b2 : (t250 == t237 && (t251 == t238)) = true := by simpa using c42))
           clear c42
           by_cases c43 : t257 = true
           ·
            subst c43
            have H1 : (some (t255 == t233 && (t256 == t234))) = some r := by rw [if_pos rfl] at H; exact H
            clear H
            have H := H1
            clear H1
            obtain rfl := Option.some.inj H
            have hnb44 := NB240_236.out
            have hnc44 := NB236_240.out
            have hnb45 := NB240_244.out
            have hnc45 := NB244_240.out
            have hcz46_0 : wc.cell? ⟨gb240, 0, none⟩ = some (.int .i64 t237) := (blk_cell BK240.out 0).trans rfl
            have hcz46_1 : wc.cell? ⟨gb240, 1, none⟩ = some (.int .i64 t238) := (blk_cell BK240.out 1).trans rfl
            have hfz46_0 := blk_frozen BK240.out 0
            have hfz46_1 := blk_frozen BK240.out 1
            try go_wp2_with (first | ((with_reducible refine gate_callee (f := 19) rfl ?_); refine goesL_ (some 53) rfl rfl Tryd.func19 (by kernel_rfl) rfl #[.agg #[.int .i64 t237, .int .i64 t238], .string (⟨#[82, 82]⟩ : ByteArray)] rfl (by (try simp only [List.map_toArray, List.map_cons, List.map_nil]); first | done | rfl | (simp only [List.length_drop, List.length_take]; rfl)) ?_; (with_reducible refine (impl_DancedFrom.calls kj5 t237 t238 (⟨#[82, 82]⟩ : ByteArray) t246 t247 true _ A33.out).mono ?_); rintro e w47 ⟨rfl, hb⟩; refine ⟨_, rfl, ?_⟩; have n0_ := Aside0.mk (blk_below (g := gb236) (o := .cells #[.int .i64 t233, .int .i64 t234] 25 (0, 0)) (kb BK236.out) hb); have n1_ := Aside0.mk (blk_below (g := gb240) (o := .cells #[.int .i64 t237, .int .i64 t238] 25 (0, 0)) (kb BK240.out) hb); have n2_ := Aside0.mk (blk_below (g := gb244) (o := .cells #[.int .i64 t241, .int .i64 t242] 25 (0, 0)) (kb BK244.out) hb); have n3_ := Aside0.mk (below_step (lb3 HB.out GE236.out GE240.out GE244.out) hb); clear BK236; clear BK240; clear BK244; clear HB; have BK236 := n0_; have BK240 := n1_; have BK244 := n2_; have HB := n3_; clear n0_ n1_ n2_ n3_; (try clear hb); (try clear hb2); (try clear hk); (try clear hi)) | ((with_reducible refine gate_dst (N := 9) rfl ?_); refine box_event ?hg (N := 9) ?hd (cs := #[.int .i64 0, .int .i64 0]) (t := 25) ?hr ?_; (case hd => rfl); (case hg => rfl); (case hr => first | (go_simp; done) | (go_simp; rfl)); intro gb249 hg w48 hbox hb; have n0_ := Aside0.mk (blk_below (g := gb236) (o := .cells #[.int .i64 t233, .int .i64 t234] 25 (0, 0)) (kb BK236.out) hb); have n1_ := Aside0.mk (blk_below (g := gb240) (o := .cells #[.int .i64 t237, .int .i64 t238] 25 (0, 0)) (kb BK240.out) hb); have n2_ := Aside0.mk (blk_below (g := gb244) (o := .cells #[.int .i64 t241, .int .i64 t242] 25 (0, 0)) (kb BK244.out) hb); have n3_ := Aside0.mk (below_step (lb3 HB.out GE236.out GE240.out GE244.out) hb); have n4_ := Aside0.mk (hbox); have n5_ := Aside0.mk ((by rw [hg]; exact (below_size (lb3 HB.out GE236.out GE240.out GE244.out)) : w.heap.size ≤ gb249)); have n6_ := Aside0.mk ((by rw [hg]; exact (below_size (lb3 HB.out GE236.out GE240.out GE244.out)) : w.heap.size ≤ gb249)); have n7_ := Aside0.mk ((by rw [hg]; exact Nat.ne_of_lt (blk_lt (g := gb236) (o := .cells #[.int .i64 t233, .int .i64 t234] 25 (0, 0)) (kb BK236.out)) : gb236 ≠ gb249)); have n8_ := Aside0.mk ((by rw [hg]; exact Nat.ne_of_gt (blk_lt (g := gb236) (o := .cells #[.int .i64 t233, .int .i64 t234] 25 (0, 0)) (kb BK236.out)) : gb249 ≠ gb236)); have n9_ := Aside0.mk ((by rw [hg]; exact Nat.ne_of_lt (blk_lt (g := gb240) (o := .cells #[.int .i64 t237, .int .i64 t238] 25 (0, 0)) (kb BK240.out)) : gb240 ≠ gb249)); have n10_ := Aside0.mk ((by rw [hg]; exact Nat.ne_of_gt (blk_lt (g := gb240) (o := .cells #[.int .i64 t237, .int .i64 t238] 25 (0, 0)) (kb BK240.out)) : gb249 ≠ gb240)); have n11_ := Aside0.mk ((by rw [hg]; exact Nat.ne_of_lt (blk_lt (g := gb244) (o := .cells #[.int .i64 t241, .int .i64 t242] 25 (0, 0)) (kb BK244.out)) : gb244 ≠ gb249)); have n12_ := Aside0.mk ((by rw [hg]; exact Nat.ne_of_gt (blk_lt (g := gb244) (o := .cells #[.int .i64 t241, .int .i64 t242] 25 (0, 0)) (kb BK244.out)) : gb249 ≠ gb244)); clear BK236; clear BK240; clear BK244; clear HB; have BK236 := n0_; have BK240 := n1_; have BK244 := n2_; have HB := n3_; have BK249 := n4_; have GW249 := n5_; have GE249 := n6_; have NB236_249 := n7_; have NB249_236 := n8_; have NB240_249 := n9_; have NB249_240 := n10_; have NB244_249 := n11_; have NB249_244 := n12_; clear n0_ n1_ n2_ n3_ n4_ n5_ n6_ n7_ n8_ n9_ n10_ n11_ n12_; clear hb hbox hg; have hnb49 := NB249_236.out; have hnc49 := NB236_249.out; have hnb50 := NB249_240.out; have hnc50 := NB240_249.out; have hnb51 := NB249_244.out; have hnc51 := NB244_249.out; have hcz52_0 : w48.cell? ⟨gb249, 0, none⟩ = some (.int .i64 0) := (blk_cell BK249.out 0).trans rfl; have hcz52_1 : w48.cell? ⟨gb249, 1, none⟩ = some (.int .i64 0) := (blk_cell BK249.out 1).trans rfl; have hfz52_0 := blk_frozen BK249.out 0; have hfz52_1 := blk_frozen BK249.out 1; have hcz53_0 : w48.cell? ⟨gb240, 0, none⟩ = some (.int .i64 t237) := (blk_cell BK240.out 0).trans rfl; have hcz53_1 : w48.cell? ⟨gb240, 1, none⟩ = some (.int .i64 t238) := (blk_cell BK240.out 1).trans rfl; have hfz53_0 := blk_frozen BK240.out 0; have hfz53_1 := blk_frozen BK240.out 1) | ((with_reducible refine gate_callee (f := 19) rfl ?_); refine goesL_ (some 58) rfl rfl Tryd.func19 (by kernel_rfl) rfl #[.agg #[.int .i64 t237, .int .i64 t238], .string (⟨#[84, 82, 84, 82, 84, 82]⟩ : ByteArray)] rfl (by (try simp only [List.map_toArray, List.map_cons, List.map_nil]); first | done | rfl | (simp only [List.length_drop, List.length_take]; rfl)) ?_; (with_reducible refine (impl_DancedFrom.calls kj5 t237 t238 (⟨#[84, 82, 84, 82, 84, 82]⟩ : ByteArray) t250 t251 true _ A34.out).mono ?_); rintro e w54 ⟨rfl, hb⟩; refine ⟨_, rfl, ?_⟩; have n0_ := Aside0.mk (blk_below (g := gb236) (o := .cells #[.int .i64 t233, .int .i64 t234] 25 (0, 0)) (kf1 BK236.out NB236_249.out) hb); have n1_ := Aside0.mk (blk_below (g := gb240) (o := .cells #[.int .i64 t237, .int .i64 t238] 25 (0, 0)) (kf1 BK240.out NB240_249.out) hb); have n2_ := Aside0.mk (blk_below (g := gb244) (o := .cells #[.int .i64 t241, .int .i64 t242] 25 (0, 0)) (kf1 BK244.out NB244_249.out) hb); have n3_ := Aside0.mk (blk_below (g := gb249) (o := .cells #[.int .i64 t246, .int .i64 t247] 25 (0, 0)) (by (with_reducible repeat (first | refine blk_drewN ?_ _ | refine blk_drew ?_ | refine blk_alloc ?_ _)); refine blk_put (cs := #[.int .i64 t246, .int .i64 0]) ?_ 1 _ rfl; (with_reducible repeat (first | refine blk_drewN ?_ _ | refine blk_drew ?_ | refine blk_alloc ?_ _)); refine blk_put (cs := #[.int .i64 0, .int .i64 0]) ?_ 0 _ rfl; (with_reducible repeat (first | refine blk_drewN ?_ _ | refine blk_drew ?_ | refine blk_alloc ?_ _)); exact BK249.out) hb); have n4_ := Aside0.mk (below_step (lb4 HB.out GE236.out GE240.out GE244.out GE249.out) hb); clear BK236; clear BK240; clear BK244; clear BK249; clear HB; have BK236 := n0_; have BK240 := n1_; have BK244 := n2_; have BK249 := n3_; have HB := n4_; clear n0_ n1_ n2_ n3_ n4_; (try clear hb); (try clear hb2); (try clear hk); (try clear hi)) | ((with_reducible refine gate_dst (N := 11) rfl ?_); refine box_event ?hg (N := 11) ?hd (cs := #[.int .i64 0, .int .i64 0]) (t := 25) ?hr ?_; (case hd => rfl); (case hg => rfl); (case hr => first | (go_simp; done) | (go_simp; rfl)); intro gb253 hg w55 hbox hb; have n0_ := Aside0.mk (blk_below (g := gb236) (o := .cells #[.int .i64 t233, .int .i64 t234] 25 (0, 0)) (kb BK236.out) hb); have n1_ := Aside0.mk (blk_below (g := gb240) (o := .cells #[.int .i64 t237, .int .i64 t238] 25 (0, 0)) (kb BK240.out) hb); have n2_ := Aside0.mk (blk_below (g := gb244) (o := .cells #[.int .i64 t241, .int .i64 t242] 25 (0, 0)) (kb BK244.out) hb); have n3_ := Aside0.mk (blk_below (g := gb249) (o := .cells #[.int .i64 t246, .int .i64 t247] 25 (0, 0)) (kb BK249.out) hb); have n4_ := Aside0.mk (below_step (lb4 HB.out GE236.out GE240.out GE244.out GE249.out) hb); have n5_ := Aside0.mk (hbox); have n6_ := Aside0.mk ((by rw [hg]; exact (below_size (lb4 HB.out GE236.out GE240.out GE244.out GE249.out)) : w.heap.size ≤ gb253)); have n7_ := Aside0.mk ((by rw [hg]; exact (below_size (lb4 HB.out GE236.out GE240.out GE244.out GE249.out)) : w.heap.size ≤ gb253)); have n8_ := Aside0.mk ((by rw [hg]; exact Nat.ne_of_lt (blk_lt (g := gb236) (o := .cells #[.int .i64 t233, .int .i64 t234] 25 (0, 0)) (kb BK236.out)) : gb236 ≠ gb253)); have n9_ := Aside0.mk ((by rw [hg]; exact Nat.ne_of_gt (blk_lt (g := gb236) (o := .cells #[.int .i64 t233, .int .i64 t234] 25 (0, 0)) (kb BK236.out)) : gb253 ≠ gb236)); have n10_ := Aside0.mk ((by rw [hg]; exact Nat.ne_of_lt (blk_lt (g := gb240) (o := .cells #[.int .i64 t237, .int .i64 t238] 25 (0, 0)) (kb BK240.out)) : gb240 ≠ gb253)); have n11_ := Aside0.mk ((by rw [hg]; exact Nat.ne_of_gt (blk_lt (g := gb240) (o := .cells #[.int .i64 t237, .int .i64 t238] 25 (0, 0)) (kb BK240.out)) : gb253 ≠ gb240)); have n12_ := Aside0.mk ((by rw [hg]; exact Nat.ne_of_lt (blk_lt (g := gb244) (o := .cells #[.int .i64 t241, .int .i64 t242] 25 (0, 0)) (kb BK244.out)) : gb244 ≠ gb253)); have n13_ := Aside0.mk ((by rw [hg]; exact Nat.ne_of_gt (blk_lt (g := gb244) (o := .cells #[.int .i64 t241, .int .i64 t242] 25 (0, 0)) (kb BK244.out)) : gb253 ≠ gb244)); have n14_ := Aside0.mk ((by rw [hg]; exact Nat.ne_of_lt (blk_lt (g := gb249) (o := .cells #[.int .i64 t246, .int .i64 t247] 25 (0, 0)) (kb BK249.out)) : gb249 ≠ gb253)); have n15_ := Aside0.mk ((by rw [hg]; exact Nat.ne_of_gt (blk_lt (g := gb249) (o := .cells #[.int .i64 t246, .int .i64 t247] 25 (0, 0)) (kb BK249.out)) : gb253 ≠ gb249)); clear BK236; clear BK240; clear BK244; clear BK249; clear HB; have BK236 := n0_; have BK240 := n1_; have BK244 := n2_; have BK249 := n3_; have HB := n4_; have BK253 := n5_; have GW253 := n6_; have GE253 := n7_; have NB236_253 := n8_; have NB253_236 := n9_; have NB240_253 := n10_; have NB253_240 := n11_; have NB244_253 := n12_; have NB253_244 := n13_; have NB249_253 := n14_; have NB253_249 := n15_; clear n0_ n1_ n2_ n3_ n4_ n5_ n6_ n7_ n8_ n9_ n10_ n11_ n12_ n13_ n14_ n15_; clear hb hbox hg; have hnb56 := NB253_236.out; have hnc56 := NB236_253.out; have hnb57 := NB253_240.out; have hnc57 := NB240_253.out; have hnb58 := NB253_244.out; have hnc58 := NB244_253.out; have hnb59 := NB253_249.out; have hnc59 := NB249_253.out; have hcz60_0 : w55.cell? ⟨gb253, 0, none⟩ = some (.int .i64 0) := (blk_cell BK253.out 0).trans rfl; have hcz60_1 : w55.cell? ⟨gb253, 1, none⟩ = some (.int .i64 0) := (blk_cell BK253.out 1).trans rfl; have hfz60_0 := blk_frozen BK253.out 0; have hfz60_1 := blk_frozen BK253.out 1))
            have n0_ : Aside0 (((w55.setCell ⟨gb253, 0, none⟩ (.int .i64 t250)).setCell ⟨gb253, 1, none⟩ (.int .i64 t251)).heap[gb236]? = some (.cells #[.int .i64 t233, .int .i64 t234] 25 (0, 0))) := ⟨kf1 BK236.out NB236_253.out⟩
            have n1_ : Aside0 (((w55.setCell ⟨gb253, 0, none⟩ (.int .i64 t250)).setCell ⟨gb253, 1, none⟩ (.int .i64 t251)).heap[gb240]? = some (.cells #[.int .i64 t237, .int .i64 t238] 25 (0, 0))) := ⟨kf1 BK240.out NB240_253.out⟩
            have n2_ : Aside0 (((w55.setCell ⟨gb253, 0, none⟩ (.int .i64 t250)).setCell ⟨gb253, 1, none⟩ (.int .i64 t251)).heap[gb244]? = some (.cells #[.int .i64 t241, .int .i64 t242] 25 (0, 0))) := ⟨kf1 BK244.out NB244_253.out⟩
            have n3_ : Aside0 (((w55.setCell ⟨gb253, 0, none⟩ (.int .i64 t250)).setCell ⟨gb253, 1, none⟩ (.int .i64 t251)).heap[gb249]? = some (.cells #[.int .i64 t246, .int .i64 t247] 25 (0, 0))) := ⟨kf1 BK249.out NB249_253.out⟩
            have n4_ : Aside0 (((w55.setCell ⟨gb253, 0, none⟩ (.int .i64 t250)).setCell ⟨gb253, 1, none⟩ (.int .i64 t251)).heap[gb253]? = some (.cells #[.int .i64 t250, .int .i64 t251] 25 (0, 0))) := ⟨by (with_reducible repeat (first | refine blk_drewN ?_ _ | refine blk_drew ?_ | refine blk_alloc ?_ _)); refine blk_put (cs := #[.int .i64 t250, .int .i64 0]) ?_ 1 _ rfl; (with_reducible repeat (first | refine blk_drewN ?_ _ | refine blk_drew ?_ | refine blk_alloc ?_ _)); refine blk_put (cs := #[.int .i64 0, .int .i64 0]) ?_ 0 _ rfl; (with_reducible repeat (first | refine blk_drewN ?_ _ | refine blk_drew ?_ | refine blk_alloc ?_ _)); exact BK253.out⟩
            have n5_ : Aside0 (Below w.heap.size w ((w55.setCell ⟨gb253, 0, none⟩ (.int .i64 t250)).setCell ⟨gb253, 1, none⟩ (.int .i64 t251))) := ⟨by repeat (first | (with_reducible first | exact HB.out | apply below_alloc | apply pw_below_drewN | apply below_drew1 | refine below_set ?_ GE236.out | refine below_set ?_ GE240.out | refine below_set ?_ GE244.out | refine below_set ?_ GE249.out | refine below_set ?_ GE253.out) | exact HB.out)⟩
            (try clear BK236)
            (try clear BK240)
            (try clear BK244)
            (try clear BK249)
            (try clear BK253)
            (try clear HB)
            generalize ((w55.setCell ⟨gb253, 0, none⟩ (.int .i64 t250)).setCell ⟨gb253, 1, none⟩ (.int .i64 t251)) = w61 at n0_ n1_ n2_ n3_ n4_ n5_ ⊢
            have BK236 := n0_
            have BK240 := n1_
            have BK244 := n2_
            have BK249 := n3_
            have BK253 := n4_
            have HB := n5_
            clear n0_ n1_ n2_ n3_ n4_ n5_
            have n0_ := Aside0.mk (blk_drew BK236.out)
            have n1_ := Aside0.mk (blk_drew BK240.out)
            have n2_ := Aside0.mk (blk_drew BK244.out)
            have n3_ := Aside0.mk (blk_drew BK249.out)
            have n4_ := Aside0.mk (blk_drew BK253.out)
            have n5_ := Aside0.mk (below_drew1 HB.out)
            clear BK236
            clear BK240
            clear BK244
            clear BK249
            clear BK253
            clear HB
            have BK236 := n0_
            have BK240 := n1_
            have BK244 := n2_
            have BK249 := n3_
            have BK253 := n4_
            have HB := n5_
            clear n0_ n1_ n2_ n3_ n4_ n5_
            refine start_ (n := 10) (S := fun w' => w'.cell? ⟨gb240, 0, none⟩ = some (.int .i64 t237) ∧ w'.cell? ⟨gb240, 1, none⟩ = some (.int .i64 t238)) (ds := []) #[false, false, false, false, false, false, false, false, false, false] (by kernel_rfl) rfl rfl ⟨(blk_cell BK240.out 0).trans rfl, (blk_cell BK240.out 1).trans rfl⟩ (fun hHeld => ?_); refine with_tabW laws_FnDancedFrom.tab12 laws_FnDancedFrom.bits12 (fun HT_ HW_ => ?_)
            generalize w61.drew = w62 at BK236 BK240 BK244 BK249 BK253 HB hHeld ⊢
            refine pure_ (i := 1) (N := some 63) (v := ?_) (a' := ?_) #[false, true, false, false, false, false, false, false, false, false] rfl rfl (any_of HT_.out (by kernel_rfl)) (fun _ _ _ h => h) (Or.inl ⟨by rfl, ?_⟩) ?_ ?_
            rotate_left
            ·
             intro w'
             go_simp
             with_reducible rfl
            rotate_left
            ·
             simp only [Act.put, List.setIfInBounds_toArray, List.set_cons_zero, List.set_cons_succ, i64_w, i32_w]
             rfl
            refine take_ (i := 0) (N := some 62) (v := ?_) (a' := ?_) #[true, true, false, false, false, false, false, false, false, false] rfl rfl (take_ofW HT_.out HW_.out (by kernel_rfl)) (fun _ _ _ h => h) (Or.inl ⟨by rfl, ?_⟩) hHeld ?_ ?_
            rotate_left
            ·
             rintro w' ⟨s0, s1⟩
             go_simp
             with_reducible rfl
            rotate_left
            ·
             simp only [Act.put, List.setIfInBounds_toArray, List.set_cons_zero, List.set_cons_succ, i64_w, i32_w]
             rfl
            refine join_ (σ := Nat) 2 #[true, true, true, true, true, true, true, true, false, false] (fun s_ => [(64, .string t254), (65, .tuple #[.agg #[.int .i64 t255, .int .i64 t256], .bool true]), (13, .pointer (some ⟨s_, 0, none⟩)), (61, .tuple #[.agg #[.int .i64 t255, .int .i64 t256], .bool true]), (66, .agg #[.int .i64 t255, .int .i64 t256]), (67, .bool true)]) (fun s_ w' => (w'.cell? ⟨gb240, 0, none⟩ = some (.int .i64 t237) ∧ w'.cell? ⟨gb240, 1, none⟩ = some (.int .i64 t238)) ∧ (w'.heap[gb236]? = some (.cells #[.int .i64 t233, .int .i64 t234] 25 (0, 0))) ∧ (w'.heap[gb240]? = some (.cells #[.int .i64 t237, .int .i64 t238] 25 (0, 0))) ∧ (w'.heap[gb244]? = some (.cells #[.int .i64 t241, .int .i64 t242] 25 (0, 0))) ∧ (w'.heap[gb249]? = some (.cells #[.int .i64 t246, .int .i64 t247] 25 (0, 0))) ∧ (w'.heap[gb253]? = some (.cells #[.int .i64 t250, .int .i64 t251] 25 (0, 0))) ∧ (w'.heap[s_]? = some (.cells #[.int .i64 0, .int .i64 0] 25 (0, 0))) ∧ (w.heap.size ≤ s_) ∧ (w.heap.size ≤ s_) ∧ (gb236 ≠ s_) ∧ (s_ ≠ gb236) ∧ (gb240 ≠ s_) ∧ (s_ ≠ gb240) ∧ (gb244 ≠ s_) ∧ (s_ ≠ gb244) ∧ (gb249 ≠ s_) ∧ (s_ ≠ gb249) ∧ (gb253 ≠ s_) ∧ (s_ ≠ gb253) ∧ (Below w.heap.size w w')) ?_ ?_
            rotate_left
            ·
             intro hCont
             refine two_ (i := 2) (j := 7) (Ni := some 64) (Nj := some 13) #[true, true, true, false, false, false, false, false, false, false] #[true, true, false, false, false, false, false, true, false, false] rfl rfl rfl rfl (two_of HT_.out (by kernel_rfl)) (by decide) (by decide) (fun K hK => ?_) (fun K hK => ?_)
             ·
              skip
              refine goes_ Tryd.func44 (by kernel_rfl) rfl #[.string t235] (by rfl) rfl rfl (by (try simp only [List.map_toArray, List.map_cons, List.map_nil]); first | done | rfl | (simp only [List.length_drop, List.length_take]; rfl)) ?_
              with_reducible refine (impl_BackOf.calls kj5 t235 t254 _ A35.out).mono ?_
              rintro e w63 ⟨rfl, hb⟩
              refine ⟨_, rfl, ?_⟩
              have n0_ := Aside0.mk (blk_below (g := gb236) (o := .cells #[.int .i64 t233, .int .i64 t234] 25 (0, 0)) (kb BK236.out) hb)
              have n1_ := Aside0.mk (blk_below (g := gb240) (o := .cells #[.int .i64 t237, .int .i64 t238] 25 (0, 0)) (kb BK240.out) hb)
              have n2_ := Aside0.mk (blk_below (g := gb244) (o := .cells #[.int .i64 t241, .int .i64 t242] 25 (0, 0)) (kb BK244.out) hb)
              have n3_ := Aside0.mk (blk_below (g := gb249) (o := .cells #[.int .i64 t246, .int .i64 t247] 25 (0, 0)) (kb BK249.out) hb)
              have n4_ := Aside0.mk (blk_below (g := gb253) (o := .cells #[.int .i64 t250, .int .i64 t251] 25 (0, 0)) (kb BK253.out) hb)
              have n5_ := Aside0.mk (below_step (lb5 HB.out GE236.out GE240.out GE244.out GE249.out GE253.out) hb)
              clear BK236
              clear BK240
              clear BK244
              clear BK249
              clear BK253
              clear HB
              have BK236 := n0_
              have BK240 := n1_
              have BK244 := n2_
              have BK249 := n3_
              have BK253 := n4_
              have HB := n5_
              clear n0_ n1_ n2_ n3_ n4_ n5_
              (try clear hb)
              (try clear hb2)
              (try clear hk)
              (try clear hi)
              refine hK.out _ _ ⟨(blk_cell BK240.out 0).trans rfl, (blk_cell BK240.out 1).trans rfl⟩ (fun hHeld => ?_)
              clear hK K
              refine norm_ (a' := ?_) ?_ ?_
              rotate_left
              ·
               show Act.put _ (some 64) _ = _
               simp only [Act.put, List.setIfInBounds_toArray, List.set_cons_zero, List.set_cons_succ, i64_w, i32_w]
               rfl
              refine two_ (i := 3) (j := 7) (Ni := some 65) (Nj := some 13) #[true, true, true, true, false, false, false, false, false, false] #[true, true, true, false, false, false, false, true, false, false] rfl rfl rfl rfl (two_of HT_.out (by kernel_rfl)) (by decide) (by decide) (fun K hK => ?_) (fun K hK => ?_)
              ·
               skip
               refine goes_ Tryd.func19 (by kernel_rfl) rfl #[.agg #[.int .i64 t237, .int .i64 t238], .string t254] (by rfl) rfl rfl (by (try simp only [List.map_toArray, List.map_cons, List.map_nil]); first | done | rfl | (simp only [List.length_drop, List.length_take]; rfl)) ?_
               with_reducible refine (impl_DancedFrom.calls kj5 t237 t238 t254 t255 t256 true _ A36.out).mono ?_
               rintro e w64 ⟨rfl, hb⟩
               refine ⟨_, rfl, ?_⟩
               have n0_ := Aside0.mk (blk_below (g := gb236) (o := .cells #[.int .i64 t233, .int .i64 t234] 25 (0, 0)) (kb BK236.out) hb)
               have n1_ := Aside0.mk (blk_below (g := gb240) (o := .cells #[.int .i64 t237, .int .i64 t238] 25 (0, 0)) (kb BK240.out) hb)
               have n2_ := Aside0.mk (blk_below (g := gb244) (o := .cells #[.int .i64 t241, .int .i64 t242] 25 (0, 0)) (kb BK244.out) hb)
               have n3_ := Aside0.mk (blk_below (g := gb249) (o := .cells #[.int .i64 t246, .int .i64 t247] 25 (0, 0)) (kb BK249.out) hb)
               have n4_ := Aside0.mk (blk_below (g := gb253) (o := .cells #[.int .i64 t250, .int .i64 t251] 25 (0, 0)) (kb BK253.out) hb)
               have n5_ := Aside0.mk (below_step (lb5 HB.out GE236.out GE240.out GE244.out GE249.out GE253.out) hb)
               clear BK236
               clear BK240
               clear BK244
               clear BK249
               clear BK253
               clear HB
               have BK236 := n0_
               have BK240 := n1_
               have BK244 := n2_
               have BK249 := n3_
               have BK253 := n4_
               have HB := n5_
               clear n0_ n1_ n2_ n3_ n4_ n5_
               (try clear hb)
               (try clear hb2)
               (try clear hk)
               (try clear hi)
               refine hK.out _ _ ⟨(blk_cell BK240.out 0).trans rfl, (blk_cell BK240.out 1).trans rfl⟩ (fun hHeld => ?_)
               clear hK K
               refine norm_ (a' := ?_) ?_ ?_
               rotate_left
               ·
                show Act.put _ (some 65) _ = _
                simp only [Act.put, List.setIfInBounds_toArray, List.set_cons_zero, List.set_cons_succ, i64_w, i32_w]
                rfl
               refine pure_ (i := 4) (N := some 61) (v := ?_) (a' := ?_) #[true, true, true, true, true, false, false, false, false, false] rfl rfl (any_of HT_.out (by kernel_rfl)) (fun _ _ _ h => h) (Or.inl ⟨by rfl, ?_⟩) ?_ ?_
               rotate_left
               ·
                intro w'
                go_simp
                with_reducible rfl
               rotate_left
               ·
                simp only [Act.put, List.setIfInBounds_toArray, List.set_cons_zero, List.set_cons_succ, i64_w, i32_w]
                rfl
               refine pure_ (i := 5) (N := some 66) (v := ?_) (a' := ?_) #[true, true, true, true, true, true, false, false, false, false] rfl rfl (any_of HT_.out (by kernel_rfl)) (fun _ _ _ h => h) (Or.inl ⟨by rfl, ?_⟩) ?_ ?_
               rotate_left
               ·
                intro w'
                go_simp
                with_reducible rfl
               rotate_left
               ·
                simp only [Act.put, List.setIfInBounds_toArray, List.set_cons_zero, List.set_cons_succ, i64_w, i32_w]
                rfl
               refine pure_ (i := 6) (N := some 67) (v := ?_) (a' := ?_) #[true, true, true, true, true, true, true, false, false, false] rfl rfl (any_of HT_.out (by kernel_rfl)) (fun _ _ _ h => h) (Or.inl ⟨by rfl, ?_⟩) ?_ ?_
               rotate_left
               ·
                intro w'
                go_simp
                with_reducible rfl
               rotate_left
               ·
                simp only [Act.put, List.setIfInBounds_toArray, List.set_cons_zero, List.set_cons_succ, i64_w, i32_w]
                rfl
               refine one_ (i := 7) (N := some 13) #[true, true, true, true, true, true, true, true, false, false] rfl rfl (one_of HT_.out (by kernel_rfl)) (by decide) (fun K hK => ?_)
               refine box_step ?hg (N := 13) ?hd (cs := #[.int .i64 0, .int .i64 0]) (t := 25) ?hr ?_; (case hd => rfl); (case hg => rfl); (case hr => first | (go_simp; done) | (go_simp; rfl))
               intro gb258 hg w65 hbox hb
               have n0_ := Aside0.mk (blk_below (g := gb236) (o := .cells #[.int .i64 t233, .int .i64 t234] 25 (0, 0)) (kb BK236.out) hb)
               have n1_ := Aside0.mk (blk_below (g := gb240) (o := .cells #[.int .i64 t237, .int .i64 t238] 25 (0, 0)) (kb BK240.out) hb)
               have n2_ := Aside0.mk (blk_below (g := gb244) (o := .cells #[.int .i64 t241, .int .i64 t242] 25 (0, 0)) (kb BK244.out) hb)
               have n3_ := Aside0.mk (blk_below (g := gb249) (o := .cells #[.int .i64 t246, .int .i64 t247] 25 (0, 0)) (kb BK249.out) hb)
               have n4_ := Aside0.mk (blk_below (g := gb253) (o := .cells #[.int .i64 t250, .int .i64 t251] 25 (0, 0)) (kb BK253.out) hb)
               have n5_ := Aside0.mk (below_step (lb5 HB.out GE236.out GE240.out GE244.out GE249.out GE253.out) hb)
               have n6_ := Aside0.mk (hbox)
               have n7_ := Aside0.mk ((by rw [hg]; exact (below_size (lb5 HB.out GE236.out GE240.out GE244.out GE249.out GE253.out)) : w.heap.size ≤ gb258))
               have n8_ := Aside0.mk ((by rw [hg]; exact (below_size (lb5 HB.out GE236.out GE240.out GE244.out GE249.out GE253.out)) : w.heap.size ≤ gb258))
               have n9_ := Aside0.mk ((by rw [hg]; exact Nat.ne_of_lt (blk_lt (g := gb236) (o := .cells #[.int .i64 t233, .int .i64 t234] 25 (0, 0)) (kb BK236.out)) : gb236 ≠ gb258))
               have n10_ := Aside0.mk ((by rw [hg]; exact Nat.ne_of_gt (blk_lt (g := gb236) (o := .cells #[.int .i64 t233, .int .i64 t234] 25 (0, 0)) (kb BK236.out)) : gb258 ≠ gb236))
               have n11_ := Aside0.mk ((by rw [hg]; exact Nat.ne_of_lt (blk_lt (g := gb240) (o := .cells #[.int .i64 t237, .int .i64 t238] 25 (0, 0)) (kb BK240.out)) : gb240 ≠ gb258))
               have n12_ := Aside0.mk ((by rw [hg]; exact Nat.ne_of_gt (blk_lt (g := gb240) (o := .cells #[.int .i64 t237, .int .i64 t238] 25 (0, 0)) (kb BK240.out)) : gb258 ≠ gb240))
               have n13_ := Aside0.mk ((by rw [hg]; exact Nat.ne_of_lt (blk_lt (g := gb244) (o := .cells #[.int .i64 t241, .int .i64 t242] 25 (0, 0)) (kb BK244.out)) : gb244 ≠ gb258))
               have n14_ := Aside0.mk ((by rw [hg]; exact Nat.ne_of_gt (blk_lt (g := gb244) (o := .cells #[.int .i64 t241, .int .i64 t242] 25 (0, 0)) (kb BK244.out)) : gb258 ≠ gb244))
               have n15_ := Aside0.mk ((by rw [hg]; exact Nat.ne_of_lt (blk_lt (g := gb249) (o := .cells #[.int .i64 t246, .int .i64 t247] 25 (0, 0)) (kb BK249.out)) : gb249 ≠ gb258))
               have n16_ := Aside0.mk ((by rw [hg]; exact Nat.ne_of_gt (blk_lt (g := gb249) (o := .cells #[.int .i64 t246, .int .i64 t247] 25 (0, 0)) (kb BK249.out)) : gb258 ≠ gb249))
               have n17_ := Aside0.mk ((by rw [hg]; exact Nat.ne_of_lt (blk_lt (g := gb253) (o := .cells #[.int .i64 t250, .int .i64 t251] 25 (0, 0)) (kb BK253.out)) : gb253 ≠ gb258))
               have n18_ := Aside0.mk ((by rw [hg]; exact Nat.ne_of_gt (blk_lt (g := gb253) (o := .cells #[.int .i64 t250, .int .i64 t251] 25 (0, 0)) (kb BK253.out)) : gb258 ≠ gb253))
               clear BK236
               clear BK240
               clear BK244
               clear BK249
               clear BK253
               clear HB
               have BK236 := n0_
               have BK240 := n1_
               have BK244 := n2_
               have BK249 := n3_
               have BK253 := n4_
               have HB := n5_
               have BK258 := n6_
               have GW258 := n7_
               have GE258 := n8_
               have NB236_258 := n9_
               have NB258_236 := n10_
               have NB240_258 := n11_
               have NB258_240 := n12_
               have NB244_258 := n13_
               have NB258_244 := n14_
               have NB249_258 := n15_
               have NB258_249 := n16_
               have NB253_258 := n17_
               have NB258_253 := n18_
               clear n0_ n1_ n2_ n3_ n4_ n5_ n6_ n7_ n8_ n9_ n10_ n11_ n12_ n13_ n14_ n15_ n16_ n17_ n18_
               clear hb hbox hg
               refine hK.out _ _ ⟨(blk_cell BK240.out 0).trans rfl, (blk_cell BK240.out 1).trans rfl⟩ (fun hHeld => ?_)
               clear hK K
               refine norm_ (a' := ?_) ?_ ?_
               rotate_left
               ·
                show Act.put _ (some 13) _ = _
                simp only [Act.put, List.setIfInBounds_toArray, List.set_cons_zero, List.set_cons_succ, i64_w, i32_w]
                rfl
               exact norm_ (by simp only [putAll, Act.put, List.setIfInBounds_toArray, List.set_cons_zero, List.set_cons_succ]) (hCont (gb258) _ ⟨hHeld, (kb BK236.out), (kb BK240.out), (kb BK244.out), (kb BK249.out), (kb BK253.out), (kb BK258.out), GW258.out, GE258.out, NB236_258.out, NB258_236.out, NB240_258.out, NB258_240.out, NB244_258.out, NB258_244.out, NB249_258.out, NB258_249.out, NB253_258.out, NB258_253.out, (lb6 HB.out GE236.out GE240.out GE244.out GE249.out GE253.out GE258.out)⟩)
              ·
               skip
               refine box_step ?hg (N := 13) ?hd (cs := #[.int .i64 0, .int .i64 0]) (t := 25) ?hr ?_; (case hd => rfl); (case hg => rfl); (case hr => first | (go_simp; done) | (go_simp; rfl))
               intro gb258 hg w64 hbox hb
               have n0_ := Aside0.mk (blk_below (g := gb236) (o := .cells #[.int .i64 t233, .int .i64 t234] 25 (0, 0)) (kb BK236.out) hb)
               have n1_ := Aside0.mk (blk_below (g := gb240) (o := .cells #[.int .i64 t237, .int .i64 t238] 25 (0, 0)) (kb BK240.out) hb)
               have n2_ := Aside0.mk (blk_below (g := gb244) (o := .cells #[.int .i64 t241, .int .i64 t242] 25 (0, 0)) (kb BK244.out) hb)
               have n3_ := Aside0.mk (blk_below (g := gb249) (o := .cells #[.int .i64 t246, .int .i64 t247] 25 (0, 0)) (kb BK249.out) hb)
               have n4_ := Aside0.mk (blk_below (g := gb253) (o := .cells #[.int .i64 t250, .int .i64 t251] 25 (0, 0)) (kb BK253.out) hb)
               have n5_ := Aside0.mk (below_step (lb5 HB.out GE236.out GE240.out GE244.out GE249.out GE253.out) hb)
               have n6_ := Aside0.mk (hbox)
               have n7_ := Aside0.mk ((by rw [hg]; exact (below_size (lb5 HB.out GE236.out GE240.out GE244.out GE249.out GE253.out)) : w.heap.size ≤ gb258))
               have n8_ := Aside0.mk ((by rw [hg]; exact (below_size (lb5 HB.out GE236.out GE240.out GE244.out GE249.out GE253.out)) : w.heap.size ≤ gb258))
               have n9_ := Aside0.mk ((by rw [hg]; exact Nat.ne_of_lt (blk_lt (g := gb236) (o := .cells #[.int .i64 t233, .int .i64 t234] 25 (0, 0)) (kb BK236.out)) : gb236 ≠ gb258))
               have n10_ := Aside0.mk ((by rw [hg]; exact Nat.ne_of_gt (blk_lt (g := gb236) (o := .cells #[.int .i64 t233, .int .i64 t234] 25 (0, 0)) (kb BK236.out)) : gb258 ≠ gb236))
               have n11_ := Aside0.mk ((by rw [hg]; exact Nat.ne_of_lt (blk_lt (g := gb240) (o := .cells #[.int .i64 t237, .int .i64 t238] 25 (0, 0)) (kb BK240.out)) : gb240 ≠ gb258))
               have n12_ := Aside0.mk ((by rw [hg]; exact Nat.ne_of_gt (blk_lt (g := gb240) (o := .cells #[.int .i64 t237, .int .i64 t238] 25 (0, 0)) (kb BK240.out)) : gb258 ≠ gb240))
               have n13_ := Aside0.mk ((by rw [hg]; exact Nat.ne_of_lt (blk_lt (g := gb244) (o := .cells #[.int .i64 t241, .int .i64 t242] 25 (0, 0)) (kb BK244.out)) : gb244 ≠ gb258))
               have n14_ := Aside0.mk ((by rw [hg]; exact Nat.ne_of_gt (blk_lt (g := gb244) (o := .cells #[.int .i64 t241, .int .i64 t242] 25 (0, 0)) (kb BK244.out)) : gb258 ≠ gb244))
               have n15_ := Aside0.mk ((by rw [hg]; exact Nat.ne_of_lt (blk_lt (g := gb249) (o := .cells #[.int .i64 t246, .int .i64 t247] 25 (0, 0)) (kb BK249.out)) : gb249 ≠ gb258))
               have n16_ := Aside0.mk ((by rw [hg]; exact Nat.ne_of_gt (blk_lt (g := gb249) (o := .cells #[.int .i64 t246, .int .i64 t247] 25 (0, 0)) (kb BK249.out)) : gb258 ≠ gb249))
               have n17_ := Aside0.mk ((by rw [hg]; exact Nat.ne_of_lt (blk_lt (g := gb253) (o := .cells #[.int .i64 t250, .int .i64 t251] 25 (0, 0)) (kb BK253.out)) : gb253 ≠ gb258))
               have n18_ := Aside0.mk ((by rw [hg]; exact Nat.ne_of_gt (blk_lt (g := gb253) (o := .cells #[.int .i64 t250, .int .i64 t251] 25 (0, 0)) (kb BK253.out)) : gb258 ≠ gb253))
               clear BK236
               clear BK240
               clear BK244
               clear BK249
               clear BK253
               clear HB
               have BK236 := n0_
               have BK240 := n1_
               have BK244 := n2_
               have BK249 := n3_
               have BK253 := n4_
               have HB := n5_
               have BK258 := n6_
               have GW258 := n7_
               have GE258 := n8_
               have NB236_258 := n9_
               have NB258_236 := n10_
               have NB240_258 := n11_
               have NB258_240 := n12_
               have NB244_258 := n13_
               have NB258_244 := n14_
               have NB249_258 := n15_
               have NB258_249 := n16_
               have NB253_258 := n17_
               have NB258_253 := n18_
               clear n0_ n1_ n2_ n3_ n4_ n5_ n6_ n7_ n8_ n9_ n10_ n11_ n12_ n13_ n14_ n15_ n16_ n17_ n18_
               clear hb hbox hg
               refine hK.out _ _ ⟨(blk_cell BK240.out 0).trans rfl, (blk_cell BK240.out 1).trans rfl⟩ (fun hHeld => ?_)
               clear hK K
               refine norm_ (a' := ?_) ?_ ?_
               rotate_left
               ·
                show Act.put _ (some 13) _ = _
                simp only [Act.put, List.setIfInBounds_toArray, List.set_cons_zero, List.set_cons_succ, i64_w, i32_w]
                rfl
               refine one_ (i := 3) (N := some 65) #[true, true, true, true, false, false, false, true, false, false] rfl rfl (one_of HT_.out (by kernel_rfl)) (by decide) (fun K hK => ?_)
               refine goes_ Tryd.func19 (by kernel_rfl) rfl #[.agg #[.int .i64 t237, .int .i64 t238], .string t254] (by rfl) rfl rfl (by (try simp only [List.map_toArray, List.map_cons, List.map_nil]); first | done | rfl | (simp only [List.length_drop, List.length_take]; rfl)) ?_
               with_reducible refine (impl_DancedFrom.calls kj5 t237 t238 t254 t255 t256 true _ A36.out).mono ?_
               rintro e w65 ⟨rfl, hb⟩
               refine ⟨_, rfl, ?_⟩
               have n0_ := Aside0.mk (blk_below (g := gb236) (o := .cells #[.int .i64 t233, .int .i64 t234] 25 (0, 0)) (kb BK236.out) hb)
               have n1_ := Aside0.mk (blk_below (g := gb240) (o := .cells #[.int .i64 t237, .int .i64 t238] 25 (0, 0)) (kb BK240.out) hb)
               have n2_ := Aside0.mk (blk_below (g := gb244) (o := .cells #[.int .i64 t241, .int .i64 t242] 25 (0, 0)) (kb BK244.out) hb)
               have n3_ := Aside0.mk (blk_below (g := gb249) (o := .cells #[.int .i64 t246, .int .i64 t247] 25 (0, 0)) (kb BK249.out) hb)
               have n4_ := Aside0.mk (blk_below (g := gb253) (o := .cells #[.int .i64 t250, .int .i64 t251] 25 (0, 0)) (kb BK253.out) hb)
               have n5_ := Aside0.mk (blk_below (g := gb258) (o := .cells #[.int .i64 0, .int .i64 0] 25 (0, 0)) (kb BK258.out) hb)
               have n6_ := Aside0.mk (below_step (lb6 HB.out GE236.out GE240.out GE244.out GE249.out GE253.out GE258.out) hb)
               clear BK236
               clear BK240
               clear BK244
               clear BK249
               clear BK253
               clear BK258
               clear HB
               have BK236 := n0_
               have BK240 := n1_
               have BK244 := n2_
               have BK249 := n3_
               have BK253 := n4_
               have BK258 := n5_
               have HB := n6_
               clear n0_ n1_ n2_ n3_ n4_ n5_ n6_
               (try clear hb)
               (try clear hb2)
               (try clear hk)
               (try clear hi)
               refine hK.out _ _ ⟨(blk_cell BK240.out 0).trans rfl, (blk_cell BK240.out 1).trans rfl⟩ (fun hHeld => ?_)
               clear hK K
               refine norm_ (a' := ?_) ?_ ?_
               rotate_left
               ·
                show Act.put _ (some 65) _ = _
                simp only [Act.put, List.setIfInBounds_toArray, List.set_cons_zero, List.set_cons_succ, i64_w, i32_w]
                rfl
               refine pure_ (i := 4) (N := some 61) (v := ?_) (a' := ?_) #[true, true, true, true, true, false, false, true, false, false] rfl rfl (any_of HT_.out (by kernel_rfl)) (fun _ _ _ h => h) (Or.inl ⟨by rfl, ?_⟩) ?_ ?_
               rotate_left
               ·
                intro w'
                go_simp
                with_reducible rfl
               rotate_left
               ·
                simp only [Act.put, List.setIfInBounds_toArray, List.set_cons_zero, List.set_cons_succ, i64_w, i32_w]
                rfl
               refine pure_ (i := 5) (N := some 66) (v := ?_) (a' := ?_) #[true, true, true, true, true, true, false, true, false, false] rfl rfl (any_of HT_.out (by kernel_rfl)) (fun _ _ _ h => h) (Or.inl ⟨by rfl, ?_⟩) ?_ ?_
               rotate_left
               ·
                intro w'
                go_simp
                with_reducible rfl
               rotate_left
               ·
                simp only [Act.put, List.setIfInBounds_toArray, List.set_cons_zero, List.set_cons_succ, i64_w, i32_w]
                rfl
               refine pure_ (i := 6) (N := some 67) (v := ?_) (a' := ?_) #[true, true, true, true, true, true, true, true, false, false] rfl rfl (any_of HT_.out (by kernel_rfl)) (fun _ _ _ h => h) (Or.inl ⟨by rfl, ?_⟩) ?_ ?_
               rotate_left
               ·
                intro w'
                go_simp
                with_reducible rfl
               rotate_left
               ·
                simp only [Act.put, List.setIfInBounds_toArray, List.set_cons_zero, List.set_cons_succ, i64_w, i32_w]
                rfl
               exact norm_ (by simp only [putAll, Act.put, List.setIfInBounds_toArray, List.set_cons_zero, List.set_cons_succ]) (hCont (gb258) _ ⟨hHeld, (kb BK236.out), (kb BK240.out), (kb BK244.out), (kb BK249.out), (kb BK253.out), (kb BK258.out), GW258.out, GE258.out, NB236_258.out, NB258_236.out, NB240_258.out, NB258_240.out, NB244_258.out, NB258_244.out, NB249_258.out, NB258_249.out, NB253_258.out, NB258_253.out, (lb6 HB.out GE236.out GE240.out GE244.out GE249.out GE253.out GE258.out)⟩)
             ·
              skip
              refine box_step ?hg (N := 13) ?hd (cs := #[.int .i64 0, .int .i64 0]) (t := 25) ?hr ?_; (case hd => rfl); (case hg => rfl); (case hr => first | (go_simp; done) | (go_simp; rfl))
              intro gb258 hg w63 hbox hb
              have n0_ := Aside0.mk (blk_below (g := gb236) (o := .cells #[.int .i64 t233, .int .i64 t234] 25 (0, 0)) (kb BK236.out) hb)
              have n1_ := Aside0.mk (blk_below (g := gb240) (o := .cells #[.int .i64 t237, .int .i64 t238] 25 (0, 0)) (kb BK240.out) hb)
              have n2_ := Aside0.mk (blk_below (g := gb244) (o := .cells #[.int .i64 t241, .int .i64 t242] 25 (0, 0)) (kb BK244.out) hb)
              have n3_ := Aside0.mk (blk_below (g := gb249) (o := .cells #[.int .i64 t246, .int .i64 t247] 25 (0, 0)) (kb BK249.out) hb)
              have n4_ := Aside0.mk (blk_below (g := gb253) (o := .cells #[.int .i64 t250, .int .i64 t251] 25 (0, 0)) (kb BK253.out) hb)
              have n5_ := Aside0.mk (below_step (lb5 HB.out GE236.out GE240.out GE244.out GE249.out GE253.out) hb)
              have n6_ := Aside0.mk (hbox)
              have n7_ := Aside0.mk ((by rw [hg]; exact (below_size (lb5 HB.out GE236.out GE240.out GE244.out GE249.out GE253.out)) : w.heap.size ≤ gb258))
              have n8_ := Aside0.mk ((by rw [hg]; exact (below_size (lb5 HB.out GE236.out GE240.out GE244.out GE249.out GE253.out)) : w.heap.size ≤ gb258))
              have n9_ := Aside0.mk ((by rw [hg]; exact Nat.ne_of_lt (blk_lt (g := gb236) (o := .cells #[.int .i64 t233, .int .i64 t234] 25 (0, 0)) (kb BK236.out)) : gb236 ≠ gb258))
              have n10_ := Aside0.mk ((by rw [hg]; exact Nat.ne_of_gt (blk_lt (g := gb236) (o := .cells #[.int .i64 t233, .int .i64 t234] 25 (0, 0)) (kb BK236.out)) : gb258 ≠ gb236))
              have n11_ := Aside0.mk ((by rw [hg]; exact Nat.ne_of_lt (blk_lt (g := gb240) (o := .cells #[.int .i64 t237, .int .i64 t238] 25 (0, 0)) (kb BK240.out)) : gb240 ≠ gb258))
              have n12_ := Aside0.mk ((by rw [hg]; exact Nat.ne_of_gt (blk_lt (g := gb240) (o := .cells #[.int .i64 t237, .int .i64 t238] 25 (0, 0)) (kb BK240.out)) : gb258 ≠ gb240))
              have n13_ := Aside0.mk ((by rw [hg]; exact Nat.ne_of_lt (blk_lt (g := gb244) (o := .cells #[.int .i64 t241, .int .i64 t242] 25 (0, 0)) (kb BK244.out)) : gb244 ≠ gb258))
              have n14_ := Aside0.mk ((by rw [hg]; exact Nat.ne_of_gt (blk_lt (g := gb244) (o := .cells #[.int .i64 t241, .int .i64 t242] 25 (0, 0)) (kb BK244.out)) : gb258 ≠ gb244))
              have n15_ := Aside0.mk ((by rw [hg]; exact Nat.ne_of_lt (blk_lt (g := gb249) (o := .cells #[.int .i64 t246, .int .i64 t247] 25 (0, 0)) (kb BK249.out)) : gb249 ≠ gb258))
              have n16_ := Aside0.mk ((by rw [hg]; exact Nat.ne_of_gt (blk_lt (g := gb249) (o := .cells #[.int .i64 t246, .int .i64 t247] 25 (0, 0)) (kb BK249.out)) : gb258 ≠ gb249))
              have n17_ := Aside0.mk ((by rw [hg]; exact Nat.ne_of_lt (blk_lt (g := gb253) (o := .cells #[.int .i64 t250, .int .i64 t251] 25 (0, 0)) (kb BK253.out)) : gb253 ≠ gb258))
              have n18_ := Aside0.mk ((by rw [hg]; exact Nat.ne_of_gt (blk_lt (g := gb253) (o := .cells #[.int .i64 t250, .int .i64 t251] 25 (0, 0)) (kb BK253.out)) : gb258 ≠ gb253))
              clear BK236
              clear BK240
              clear BK244
              clear BK249
              clear BK253
              clear HB
              have BK236 := n0_
              have BK240 := n1_
              have BK244 := n2_
              have BK249 := n3_
              have BK253 := n4_
              have HB := n5_
              have BK258 := n6_
              have GW258 := n7_
              have GE258 := n8_
              have NB236_258 := n9_
              have NB258_236 := n10_
              have NB240_258 := n11_
              have NB258_240 := n12_
              have NB244_258 := n13_
              have NB258_244 := n14_
              have NB249_258 := n15_
              have NB258_249 := n16_
              have NB253_258 := n17_
              have NB258_253 := n18_
              clear n0_ n1_ n2_ n3_ n4_ n5_ n6_ n7_ n8_ n9_ n10_ n11_ n12_ n13_ n14_ n15_ n16_ n17_ n18_
              clear hb hbox hg
              refine hK.out _ _ ⟨(blk_cell BK240.out 0).trans rfl, (blk_cell BK240.out 1).trans rfl⟩ (fun hHeld => ?_)
              clear hK K
              refine norm_ (a' := ?_) ?_ ?_
              rotate_left
              ·
               show Act.put _ (some 13) _ = _
               simp only [Act.put, List.setIfInBounds_toArray, List.set_cons_zero, List.set_cons_succ, i64_w, i32_w]
               rfl
              refine one_ (i := 2) (N := some 64) #[true, true, true, false, false, false, false, true, false, false] rfl rfl (one_of HT_.out (by kernel_rfl)) (by decide) (fun K hK => ?_)
              refine goes_ Tryd.func44 (by kernel_rfl) rfl #[.string t235] (by rfl) rfl rfl (by (try simp only [List.map_toArray, List.map_cons, List.map_nil]); first | done | rfl | (simp only [List.length_drop, List.length_take]; rfl)) ?_
              with_reducible refine (impl_BackOf.calls kj5 t235 t254 _ A35.out).mono ?_
              rintro e w64 ⟨rfl, hb⟩
              refine ⟨_, rfl, ?_⟩
              have n0_ := Aside0.mk (blk_below (g := gb236) (o := .cells #[.int .i64 t233, .int .i64 t234] 25 (0, 0)) (kb BK236.out) hb)
              have n1_ := Aside0.mk (blk_below (g := gb240) (o := .cells #[.int .i64 t237, .int .i64 t238] 25 (0, 0)) (kb BK240.out) hb)
              have n2_ := Aside0.mk (blk_below (g := gb244) (o := .cells #[.int .i64 t241, .int .i64 t242] 25 (0, 0)) (kb BK244.out) hb)
              have n3_ := Aside0.mk (blk_below (g := gb249) (o := .cells #[.int .i64 t246, .int .i64 t247] 25 (0, 0)) (kb BK249.out) hb)
              have n4_ := Aside0.mk (blk_below (g := gb253) (o := .cells #[.int .i64 t250, .int .i64 t251] 25 (0, 0)) (kb BK253.out) hb)
              have n5_ := Aside0.mk (blk_below (g := gb258) (o := .cells #[.int .i64 0, .int .i64 0] 25 (0, 0)) (kb BK258.out) hb)
              have n6_ := Aside0.mk (below_step (lb6 HB.out GE236.out GE240.out GE244.out GE249.out GE253.out GE258.out) hb)
              clear BK236
              clear BK240
              clear BK244
              clear BK249
              clear BK253
              clear BK258
              clear HB
              have BK236 := n0_
              have BK240 := n1_
              have BK244 := n2_
              have BK249 := n3_
              have BK253 := n4_
              have BK258 := n5_
              have HB := n6_
              clear n0_ n1_ n2_ n3_ n4_ n5_ n6_
              (try clear hb)
              (try clear hb2)
              (try clear hk)
              (try clear hi)
              refine hK.out _ _ ⟨(blk_cell BK240.out 0).trans rfl, (blk_cell BK240.out 1).trans rfl⟩ (fun hHeld => ?_)
              clear hK K
              refine norm_ (a' := ?_) ?_ ?_
              rotate_left
              ·
               show Act.put _ (some 64) _ = _
               simp only [Act.put, List.setIfInBounds_toArray, List.set_cons_zero, List.set_cons_succ, i64_w, i32_w]
               rfl
              refine one_ (i := 3) (N := some 65) #[true, true, true, true, false, false, false, true, false, false] rfl rfl (one_of HT_.out (by kernel_rfl)) (by decide) (fun K hK => ?_)
              refine goes_ Tryd.func19 (by kernel_rfl) rfl #[.agg #[.int .i64 t237, .int .i64 t238], .string t254] (by rfl) rfl rfl (by (try simp only [List.map_toArray, List.map_cons, List.map_nil]); first | done | rfl | (simp only [List.length_drop, List.length_take]; rfl)) ?_
              with_reducible refine (impl_DancedFrom.calls kj5 t237 t238 t254 t255 t256 true _ A36.out).mono ?_
              rintro e w65 ⟨rfl, hb⟩
              refine ⟨_, rfl, ?_⟩
              have n0_ := Aside0.mk (blk_below (g := gb236) (o := .cells #[.int .i64 t233, .int .i64 t234] 25 (0, 0)) (kb BK236.out) hb)
              have n1_ := Aside0.mk (blk_below (g := gb240) (o := .cells #[.int .i64 t237, .int .i64 t238] 25 (0, 0)) (kb BK240.out) hb)
              have n2_ := Aside0.mk (blk_below (g := gb244) (o := .cells #[.int .i64 t241, .int .i64 t242] 25 (0, 0)) (kb BK244.out) hb)
              have n3_ := Aside0.mk (blk_below (g := gb249) (o := .cells #[.int .i64 t246, .int .i64 t247] 25 (0, 0)) (kb BK249.out) hb)
              have n4_ := Aside0.mk (blk_below (g := gb253) (o := .cells #[.int .i64 t250, .int .i64 t251] 25 (0, 0)) (kb BK253.out) hb)
              have n5_ := Aside0.mk (blk_below (g := gb258) (o := .cells #[.int .i64 0, .int .i64 0] 25 (0, 0)) (kb BK258.out) hb)
              have n6_ := Aside0.mk (below_step (lb6 HB.out GE236.out GE240.out GE244.out GE249.out GE253.out GE258.out) hb)
              clear BK236
              clear BK240
              clear BK244
              clear BK249
              clear BK253
              clear BK258
              clear HB
              have BK236 := n0_
              have BK240 := n1_
              have BK244 := n2_
              have BK249 := n3_
              have BK253 := n4_
              have BK258 := n5_
              have HB := n6_
              clear n0_ n1_ n2_ n3_ n4_ n5_ n6_
              (try clear hb)
              (try clear hb2)
              (try clear hk)
              (try clear hi)
              refine hK.out _ _ ⟨(blk_cell BK240.out 0).trans rfl, (blk_cell BK240.out 1).trans rfl⟩ (fun hHeld => ?_)
              clear hK K
              refine norm_ (a' := ?_) ?_ ?_
              rotate_left
              ·
               show Act.put _ (some 65) _ = _
               simp only [Act.put, List.setIfInBounds_toArray, List.set_cons_zero, List.set_cons_succ, i64_w, i32_w]
               rfl
              refine pure_ (i := 4) (N := some 61) (v := ?_) (a' := ?_) #[true, true, true, true, true, false, false, true, false, false] rfl rfl (any_of HT_.out (by kernel_rfl)) (fun _ _ _ h => h) (Or.inl ⟨by rfl, ?_⟩) ?_ ?_
              rotate_left
              ·
               intro w'
               go_simp
               with_reducible rfl
              rotate_left
              ·
               simp only [Act.put, List.setIfInBounds_toArray, List.set_cons_zero, List.set_cons_succ, i64_w, i32_w]
               rfl
              refine pure_ (i := 5) (N := some 66) (v := ?_) (a' := ?_) #[true, true, true, true, true, true, false, true, false, false] rfl rfl (any_of HT_.out (by kernel_rfl)) (fun _ _ _ h => h) (Or.inl ⟨by rfl, ?_⟩) ?_ ?_
              rotate_left
              ·
               intro w'
               go_simp
               with_reducible rfl
              rotate_left
              ·
               simp only [Act.put, List.setIfInBounds_toArray, List.set_cons_zero, List.set_cons_succ, i64_w, i32_w]
               rfl
              refine pure_ (i := 6) (N := some 67) (v := ?_) (a' := ?_) #[true, true, true, true, true, true, true, true, false, false] rfl rfl (any_of HT_.out (by kernel_rfl)) (fun _ _ _ h => h) (Or.inl ⟨by rfl, ?_⟩) ?_ ?_
              rotate_left
              ·
               intro w'
               go_simp
               with_reducible rfl
              rotate_left
              ·
               simp only [Act.put, List.setIfInBounds_toArray, List.set_cons_zero, List.set_cons_succ, i64_w, i32_w]
               rfl
              exact norm_ (by simp only [putAll, Act.put, List.setIfInBounds_toArray, List.set_cons_zero, List.set_cons_succ]) (hCont (gb258) _ ⟨hHeld, (kb BK236.out), (kb BK240.out), (kb BK244.out), (kb BK249.out), (kb BK253.out), (kb BK258.out), GW258.out, GE258.out, NB236_258.out, NB258_236.out, NB240_258.out, NB258_240.out, NB244_258.out, NB258_244.out, NB249_258.out, NB258_249.out, NB253_258.out, NB258_253.out, (lb6 HB.out GE236.out GE240.out GE244.out GE249.out GE253.out GE258.out)⟩)
            rintro gb258 w66 ⟨hS_, h0_, h1_, h2_, h3_, h4_, h5_, h6_, h7_, h8_, h9_, h10_, h11_, h12_, h13_, h14_, h15_, h16_, h17_, h18_⟩
            have n0_ : Aside0 (w66.heap[gb236]? = some (.cells #[.int .i64 t233, .int .i64 t234] 25 (0, 0))) := ⟨h0_⟩
            have n1_ : Aside0 (w66.heap[gb240]? = some (.cells #[.int .i64 t237, .int .i64 t238] 25 (0, 0))) := ⟨h1_⟩
            have n2_ : Aside0 (w66.heap[gb244]? = some (.cells #[.int .i64 t241, .int .i64 t242] 25 (0, 0))) := ⟨h2_⟩
            have n3_ : Aside0 (w66.heap[gb249]? = some (.cells #[.int .i64 t246, .int .i64 t247] 25 (0, 0))) := ⟨h3_⟩
            have n4_ : Aside0 (w66.heap[gb253]? = some (.cells #[.int .i64 t250, .int .i64 t251] 25 (0, 0))) := ⟨h4_⟩
            have n5_ : Aside0 (w66.heap[gb258]? = some (.cells #[.int .i64 0, .int .i64 0] 25 (0, 0))) := ⟨h5_⟩
            have n6_ : Aside0 (w.heap.size ≤ gb258) := ⟨h6_⟩
            have n7_ : Aside0 (w.heap.size ≤ gb258) := ⟨h7_⟩
            have n8_ : Aside0 (gb236 ≠ gb258) := ⟨h8_⟩
            have n9_ : Aside0 (gb258 ≠ gb236) := ⟨h9_⟩
            have n10_ : Aside0 (gb240 ≠ gb258) := ⟨h10_⟩
            have n11_ : Aside0 (gb258 ≠ gb240) := ⟨h11_⟩
            have n12_ : Aside0 (gb244 ≠ gb258) := ⟨h12_⟩
            have n13_ : Aside0 (gb258 ≠ gb244) := ⟨h13_⟩
            have n14_ : Aside0 (gb249 ≠ gb258) := ⟨h14_⟩
            have n15_ : Aside0 (gb258 ≠ gb249) := ⟨h15_⟩
            have n16_ : Aside0 (gb253 ≠ gb258) := ⟨h16_⟩
            have n17_ : Aside0 (gb258 ≠ gb253) := ⟨h17_⟩
            have n18_ : Aside0 (Below w.heap.size w w66) := ⟨h18_⟩
            clear BK236
            clear BK240
            clear BK244
            clear BK249
            clear BK253
            clear HB
            clear h0_ h1_ h2_ h3_ h4_ h5_ h6_ h7_ h8_ h9_ h10_ h11_ h12_ h13_ h14_ h15_ h16_ h17_ h18_
            have BK236 := n0_
            have BK240 := n1_
            have BK244 := n2_
            have BK249 := n3_
            have BK253 := n4_
            have BK258 := n5_
            have GW258 := n6_
            have GE258 := n7_
            have NB236_258 := n8_
            have NB258_236 := n9_
            have NB240_258 := n10_
            have NB258_240 := n11_
            have NB244_258 := n12_
            have NB258_244 := n13_
            have NB249_258 := n14_
            have NB258_249 := n15_
            have NB253_258 := n16_
            have NB258_253 := n17_
            have HB := n18_
            clear n0_ n1_ n2_ n3_ n4_ n5_ n6_ n7_ n8_ n9_ n10_ n11_ n12_ n13_ n14_ n15_ n16_ n17_ n18_
            have hHeld : w66.cell? ⟨gb240, 0, none⟩ = some (.int .i64 t237) ∧ w66.cell? ⟨gb240, 1, none⟩ = some (.int .i64 t238) := hS_
            refine norm_ (a' := ?_) ?_ ?_
            rotate_left
            ·
             simp only [putAll, Act.put, List.setIfInBounds_toArray, List.set_cons_zero, List.set_cons_succ]
             rfl
            refine one_ (i := 8) (N := none) #[true, true, true, true, true, true, true, true, true, false] rfl rfl (one_of HT_.out (by kernel_rfl)) (by decide) (fun K hK => ?_)
            have hs67 : w66.cell? ⟨gb258, 0, none⟩ = some (.int .i64 0) := (blk_cell BK258.out 0).trans rfl
            have hfs67 := blk_frozen BK258.out 0
            have hns67_0 := NB236_258.out
            have hns67_1 := NB240_258.out
            have hns67_2 := NB244_258.out
            have hns67_3 := NB249_258.out
            have hns67_4 := NB253_258.out
            have hms67_0 := NB258_236.out
            have hms67_1 := NB258_240.out
            have hms67_2 := NB258_244.out
            have hms67_3 := NB258_249.out
            have hms67_4 := NB258_253.out
            have hs68 : w66.cell? ⟨gb258, 1, none⟩ = some (.int .i64 0) := (blk_cell BK258.out 1).trans rfl
            have hfs68 := blk_frozen BK258.out 1
            have hns68_0 := NB236_258.out
            have hns68_1 := NB240_258.out
            have hns68_2 := NB244_258.out
            have hns68_3 := NB249_258.out
            have hns68_4 := NB253_258.out
            have hms68_0 := NB258_236.out
            have hms68_1 := NB258_240.out
            have hms68_2 := NB258_244.out
            have hms68_3 := NB258_249.out
            have hms68_4 := NB258_253.out
            refine skip_ (w1 := ?_) (by rfl) rfl ?_ ?_
            rotate_left
            ·
             go_simp
             rfl
            refine hK.out _ _ ⟨((cell_far (p := ⟨gb258, _, none⟩) NB240_258.out _).trans (((cell_far (p := ⟨gb258, _, none⟩) NB240_258.out _).trans (hHeld.1)))), ((cell_far (p := ⟨gb258, _, none⟩) NB240_258.out _).trans (((cell_far (p := ⟨gb258, _, none⟩) NB240_258.out _).trans (hHeld.2))))⟩ (fun hHeld => ?_)
            clear hK K
            refine pure_ (i := 9) (N := some 14) (v := ?_) (a' := ?_) #[true, true, true, true, true, true, true, true, true, true] rfl rfl (any_of HT_.out (by kernel_rfl)) (fun _ _ _ h => h) (Or.inl ⟨by rfl, ?_⟩) ?_ ?_
            rotate_left
            ·
             intro w'
             go_simp
             with_reducible rfl
            rotate_left
            ·
             simp only [Act.put, List.setIfInBounds_toArray, List.set_cons_zero, List.set_cons_succ, i64_w, i32_w]
             rfl
            refine done_ (done_of HT_.out (by kernel_rfl)) ?_
            have hnb69 := NB240_258.out
            have hnc69 := NB258_240.out
            have hcz70_0 : w66.cell? ⟨gb240, 0, none⟩ = some (.int .i64 t237) := (blk_cell BK240.out 0).trans rfl
            have hcz70_1 : w66.cell? ⟨gb240, 1, none⟩ = some (.int .i64 t238) := (blk_cell BK240.out 1).trans rfl
            have hfz70_0 := blk_frozen BK240.out 0
            have hfz70_1 := blk_frozen BK240.out 1
            try go_wp2_with (first | ((with_reducible refine gate_callee (f := 45) rfl ?_); refine goesL_ (some 69) rfl rfl Tryd.func45 (by kernel_rfl) rfl #[.agg #[.int .i64 t237, .int .i64 t238]] rfl (by (try simp only [List.map_toArray, List.map_cons, List.map_nil]); first | done | rfl | (simp only [List.length_drop, List.length_take]; rfl)) ?_; (with_reducible refine (impl_FractionOk.calls kj5 t237 t238 true _ A37.out).mono ?_); rintro e w71 ⟨rfl, hb⟩; refine ⟨_, rfl, ?_⟩; have n0_ := Aside0.mk (blk_below (g := gb236) (o := .cells #[.int .i64 t233, .int .i64 t234] 25 (0, 0)) (kf1 BK236.out NB236_258.out) hb); have n1_ := Aside0.mk (blk_below (g := gb240) (o := .cells #[.int .i64 t237, .int .i64 t238] 25 (0, 0)) (kf1 BK240.out NB240_258.out) hb); have n2_ := Aside0.mk (blk_below (g := gb244) (o := .cells #[.int .i64 t241, .int .i64 t242] 25 (0, 0)) (kf1 BK244.out NB244_258.out) hb); have n3_ := Aside0.mk (blk_below (g := gb249) (o := .cells #[.int .i64 t246, .int .i64 t247] 25 (0, 0)) (kf1 BK249.out NB249_258.out) hb); have n4_ := Aside0.mk (blk_below (g := gb253) (o := .cells #[.int .i64 t250, .int .i64 t251] 25 (0, 0)) (kf1 BK253.out NB253_258.out) hb); have n5_ := Aside0.mk (blk_below (g := gb258) (o := .cells #[.int .i64 t255, .int .i64 t256] 25 (0, 0)) (by (with_reducible repeat (first | refine blk_drewN ?_ _ | refine blk_drew ?_ | refine blk_alloc ?_ _)); refine blk_put (cs := #[.int .i64 t255, .int .i64 0]) ?_ 1 _ rfl; (with_reducible repeat (first | refine blk_drewN ?_ _ | refine blk_drew ?_ | refine blk_alloc ?_ _)); refine blk_put (cs := #[.int .i64 0, .int .i64 0]) ?_ 0 _ rfl; (with_reducible repeat (first | refine blk_drewN ?_ _ | refine blk_drew ?_ | refine blk_alloc ?_ _)); exact BK258.out) hb); have n6_ := Aside0.mk (below_step (lb6 HB.out GE236.out GE240.out GE244.out GE249.out GE253.out GE258.out) hb); clear BK236; clear BK240; clear BK244; clear BK249; clear BK253; clear BK258; clear HB; have BK236 := n0_; have BK240 := n1_; have BK244 := n2_; have BK249 := n3_; have BK253 := n4_; have BK258 := n5_; have HB := n6_; clear n0_ n1_ n2_ n3_ n4_ n5_ n6_; (try clear hb); (try clear hb2); (try clear hk); (try clear hi); have hnb72 := NB249_258.out; have hnc72 := NB258_249.out; have hcz73_0 : w71.cell? ⟨gb249, 0, none⟩ = some (.int .i64 t246) := (blk_cell BK249.out 0).trans rfl; have hcz73_1 : w71.cell? ⟨gb249, 1, none⟩ = some (.int .i64 t247) := (blk_cell BK249.out 1).trans rfl; have hfz73_0 := blk_frozen BK249.out 0; have hfz73_1 := blk_frozen BK249.out 1; have hcz74_0 : w71.cell? ⟨gb240, 0, none⟩ = some (.int .i64 t237) := (blk_cell BK240.out 0).trans rfl; have hcz74_1 : w71.cell? ⟨gb240, 1, none⟩ = some (.int .i64 t238) := (blk_cell BK240.out 1).trans rfl; have hfz74_0 := blk_frozen BK240.out 0; have hfz74_1 := blk_frozen BK240.out 1; have hnb75 := NB253_258.out; have hnc75 := NB258_253.out; have hcz76_0 : w71.cell? ⟨gb253, 0, none⟩ = some (.int .i64 t250) := (blk_cell BK253.out 0).trans rfl; have hcz76_1 : w71.cell? ⟨gb253, 1, none⟩ = some (.int .i64 t251) := (blk_cell BK253.out 1).trans rfl; have hfz76_0 := blk_frozen BK253.out 0; have hfz76_1 := blk_frozen BK253.out 1; have hnb77 := NB258_236.out; have hnc77 := NB236_258.out; have hnb78 := NB258_244.out; have hnc78 := NB244_258.out; have hcz79_0 : w71.cell? ⟨gb258, 0, none⟩ = some (.int .i64 t255) := (blk_cell BK258.out 0).trans rfl; have hcz79_1 : w71.cell? ⟨gb258, 1, none⟩ = some (.int .i64 t256) := (blk_cell BK258.out 1).trans rfl; have hfz79_0 := blk_frozen BK258.out 0; have hfz79_1 := blk_frozen BK258.out 1; have hnb80 := NB236_244.out; have hnc80 := NB244_236.out; have hcz81_0 : w71.cell? ⟨gb236, 0, none⟩ = some (.int .i64 t233) := (blk_cell BK236.out 0).trans rfl; have hcz81_1 : w71.cell? ⟨gb236, 1, none⟩ = some (.int .i64 t234) := (blk_cell BK236.out 1).trans rfl; have hfz81_0 := blk_frozen BK236.out 0; have hfz81_1 := blk_frozen BK236.out 1))
            go_ret
            exact ⟨by first | rfl | (simp [errW_none, errW_some] <;> rfl) | (simp [*, errW_none, errW_some] <;> rfl), by repeat (first | (with_reducible first | exact HB.out | apply below_alloc | apply pw_below_drewN | apply below_drew1 | refine below_set ?_ GE236.out | refine below_set ?_ GE240.out | refine below_set ?_ GE244.out | refine below_set ?_ GE249.out | refine below_set ?_ GE253.out | refine below_set ?_ GE258.out) | exact HB.out)⟩
           ·
            replace c43 := Bool.eq_false_iff.mpr c43
            subst c43
            have H1 : (some false) = some r := by rw [if_neg (show ¬ (false = true) by decide)] at H; exact H
            clear H
            have H := H1
            clear H1
            exact absurd ((Option.some.inj H).trans hr) (by simp)
          ·
           rw [if_neg c42] at H
           have c42b0 : (t250 == t237 && (t251 == t238)) = false := by simpa using c42
           (try (have c42b1 : decide (t250 = t237 && (t251 == t238)) = false := by simpa using c42))
           (try (have c42b2 : (t250 == t237 && (t251 == t238)) = false := by simpa using c42))
           (try (have c42b3 : ¬ (t250 = t237 && (t251 == t238)) := by simpa using c42))
           clear c42
           exact absurd ((Option.some.inj H).trans hr) (by simp)
         ·
          replace c41 := Bool.eq_false_iff.mpr c41
          subst c41
          have H1 : (if t257 = true then (some (t255 == t233 && (t256 == t234))) else (some false)) = some r := by rw [if_neg (show ¬ (false = true) by decide)] at H; exact H
          clear H
          have H := H1
          clear H1
          by_cases c148 : t257 = true
          ·
           subst c148
           have H1 : (some (t255 == t233 && (t256 == t234))) = some r := by rw [if_pos rfl] at H; exact H
           clear H
           have H := H1
           clear H1
           obtain rfl := Option.some.inj H
           have hnb149 := NB240_236.out
           have hnc149 := NB236_240.out
           have hnb150 := NB240_244.out
           have hnc150 := NB244_240.out
           have hcz151_0 : wc.cell? ⟨gb240, 0, none⟩ = some (.int .i64 t237) := (blk_cell BK240.out 0).trans rfl
           have hcz151_1 : wc.cell? ⟨gb240, 1, none⟩ = some (.int .i64 t238) := (blk_cell BK240.out 1).trans rfl
           have hfz151_0 := blk_frozen BK240.out 0
           have hfz151_1 := blk_frozen BK240.out 1
           try go_wp2_with (first | ((with_reducible refine gate_callee (f := 19) rfl ?_); refine goesL_ (some 53) rfl rfl Tryd.func19 (by kernel_rfl) rfl #[.agg #[.int .i64 t237, .int .i64 t238], .string (⟨#[82, 82]⟩ : ByteArray)] rfl (by (try simp only [List.map_toArray, List.map_cons, List.map_nil]); first | done | rfl | (simp only [List.length_drop, List.length_take]; rfl)) ?_; (with_reducible refine (impl_DancedFrom.calls kj5 t237 t238 (⟨#[82, 82]⟩ : ByteArray) t246 t247 true _ A33.out).mono ?_); rintro e w152 ⟨rfl, hb⟩; refine ⟨_, rfl, ?_⟩; have n0_ := Aside0.mk (blk_below (g := gb236) (o := .cells #[.int .i64 t233, .int .i64 t234] 25 (0, 0)) (kb BK236.out) hb); have n1_ := Aside0.mk (blk_below (g := gb240) (o := .cells #[.int .i64 t237, .int .i64 t238] 25 (0, 0)) (kb BK240.out) hb); have n2_ := Aside0.mk (blk_below (g := gb244) (o := .cells #[.int .i64 t241, .int .i64 t242] 25 (0, 0)) (kb BK244.out) hb); have n3_ := Aside0.mk (below_step (lb3 HB.out GE236.out GE240.out GE244.out) hb); clear BK236; clear BK240; clear BK244; clear HB; have BK236 := n0_; have BK240 := n1_; have BK244 := n2_; have HB := n3_; clear n0_ n1_ n2_ n3_; (try clear hb); (try clear hb2); (try clear hk); (try clear hi)) | ((with_reducible refine gate_dst (N := 9) rfl ?_); refine box_event ?hg (N := 9) ?hd (cs := #[.int .i64 0, .int .i64 0]) (t := 25) ?hr ?_; (case hd => rfl); (case hg => rfl); (case hr => first | (go_simp; done) | (go_simp; rfl)); intro gb249 hg w153 hbox hb; have n0_ := Aside0.mk (blk_below (g := gb236) (o := .cells #[.int .i64 t233, .int .i64 t234] 25 (0, 0)) (kb BK236.out) hb); have n1_ := Aside0.mk (blk_below (g := gb240) (o := .cells #[.int .i64 t237, .int .i64 t238] 25 (0, 0)) (kb BK240.out) hb); have n2_ := Aside0.mk (blk_below (g := gb244) (o := .cells #[.int .i64 t241, .int .i64 t242] 25 (0, 0)) (kb BK244.out) hb); have n3_ := Aside0.mk (below_step (lb3 HB.out GE236.out GE240.out GE244.out) hb); have n4_ := Aside0.mk (hbox); have n5_ := Aside0.mk ((by rw [hg]; exact (below_size (lb3 HB.out GE236.out GE240.out GE244.out)) : w.heap.size ≤ gb249)); have n6_ := Aside0.mk ((by rw [hg]; exact (below_size (lb3 HB.out GE236.out GE240.out GE244.out)) : w.heap.size ≤ gb249)); have n7_ := Aside0.mk ((by rw [hg]; exact Nat.ne_of_lt (blk_lt (g := gb236) (o := .cells #[.int .i64 t233, .int .i64 t234] 25 (0, 0)) (kb BK236.out)) : gb236 ≠ gb249)); have n8_ := Aside0.mk ((by rw [hg]; exact Nat.ne_of_gt (blk_lt (g := gb236) (o := .cells #[.int .i64 t233, .int .i64 t234] 25 (0, 0)) (kb BK236.out)) : gb249 ≠ gb236)); have n9_ := Aside0.mk ((by rw [hg]; exact Nat.ne_of_lt (blk_lt (g := gb240) (o := .cells #[.int .i64 t237, .int .i64 t238] 25 (0, 0)) (kb BK240.out)) : gb240 ≠ gb249)); have n10_ := Aside0.mk ((by rw [hg]; exact Nat.ne_of_gt (blk_lt (g := gb240) (o := .cells #[.int .i64 t237, .int .i64 t238] 25 (0, 0)) (kb BK240.out)) : gb249 ≠ gb240)); have n11_ := Aside0.mk ((by rw [hg]; exact Nat.ne_of_lt (blk_lt (g := gb244) (o := .cells #[.int .i64 t241, .int .i64 t242] 25 (0, 0)) (kb BK244.out)) : gb244 ≠ gb249)); have n12_ := Aside0.mk ((by rw [hg]; exact Nat.ne_of_gt (blk_lt (g := gb244) (o := .cells #[.int .i64 t241, .int .i64 t242] 25 (0, 0)) (kb BK244.out)) : gb249 ≠ gb244)); clear BK236; clear BK240; clear BK244; clear HB; have BK236 := n0_; have BK240 := n1_; have BK244 := n2_; have HB := n3_; have BK249 := n4_; have GW249 := n5_; have GE249 := n6_; have NB236_249 := n7_; have NB249_236 := n8_; have NB240_249 := n9_; have NB249_240 := n10_; have NB244_249 := n11_; have NB249_244 := n12_; clear n0_ n1_ n2_ n3_ n4_ n5_ n6_ n7_ n8_ n9_ n10_ n11_ n12_; clear hb hbox hg; have hnb154 := NB249_236.out; have hnc154 := NB236_249.out; have hnb155 := NB249_240.out; have hnc155 := NB240_249.out; have hnb156 := NB249_244.out; have hnc156 := NB244_249.out; have hcz157_0 : w153.cell? ⟨gb249, 0, none⟩ = some (.int .i64 0) := (blk_cell BK249.out 0).trans rfl; have hcz157_1 : w153.cell? ⟨gb249, 1, none⟩ = some (.int .i64 0) := (blk_cell BK249.out 1).trans rfl; have hfz157_0 := blk_frozen BK249.out 0; have hfz157_1 := blk_frozen BK249.out 1; have hcz158_0 : w153.cell? ⟨gb240, 0, none⟩ = some (.int .i64 t237) := (blk_cell BK240.out 0).trans rfl; have hcz158_1 : w153.cell? ⟨gb240, 1, none⟩ = some (.int .i64 t238) := (blk_cell BK240.out 1).trans rfl; have hfz158_0 := blk_frozen BK240.out 0; have hfz158_1 := blk_frozen BK240.out 1) | ((with_reducible refine gate_callee (f := 19) rfl ?_); refine goesL_ (some 58) rfl rfl Tryd.func19 (by kernel_rfl) rfl #[.agg #[.int .i64 t237, .int .i64 t238], .string (⟨#[84, 82, 84, 82, 84, 82]⟩ : ByteArray)] rfl (by (try simp only [List.map_toArray, List.map_cons, List.map_nil]); first | done | rfl | (simp only [List.length_drop, List.length_take]; rfl)) ?_; (with_reducible refine (impl_DancedFrom.calls kj5 t237 t238 (⟨#[84, 82, 84, 82, 84, 82]⟩ : ByteArray) t250 t251 false _ A34.out).mono ?_); rintro e w159 ⟨rfl, hb⟩; refine ⟨_, rfl, ?_⟩; have n0_ := Aside0.mk (blk_below (g := gb236) (o := .cells #[.int .i64 t233, .int .i64 t234] 25 (0, 0)) (kf1 BK236.out NB236_249.out) hb); have n1_ := Aside0.mk (blk_below (g := gb240) (o := .cells #[.int .i64 t237, .int .i64 t238] 25 (0, 0)) (kf1 BK240.out NB240_249.out) hb); have n2_ := Aside0.mk (blk_below (g := gb244) (o := .cells #[.int .i64 t241, .int .i64 t242] 25 (0, 0)) (kf1 BK244.out NB244_249.out) hb); have n3_ := Aside0.mk (blk_below (g := gb249) (o := .cells #[.int .i64 t246, .int .i64 t247] 25 (0, 0)) (by (with_reducible repeat (first | refine blk_drewN ?_ _ | refine blk_drew ?_ | refine blk_alloc ?_ _)); refine blk_put (cs := #[.int .i64 t246, .int .i64 0]) ?_ 1 _ rfl; (with_reducible repeat (first | refine blk_drewN ?_ _ | refine blk_drew ?_ | refine blk_alloc ?_ _)); refine blk_put (cs := #[.int .i64 0, .int .i64 0]) ?_ 0 _ rfl; (with_reducible repeat (first | refine blk_drewN ?_ _ | refine blk_drew ?_ | refine blk_alloc ?_ _)); exact BK249.out) hb); have n4_ := Aside0.mk (below_step (lb4 HB.out GE236.out GE240.out GE244.out GE249.out) hb); clear BK236; clear BK240; clear BK244; clear BK249; clear HB; have BK236 := n0_; have BK240 := n1_; have BK244 := n2_; have BK249 := n3_; have HB := n4_; clear n0_ n1_ n2_ n3_ n4_; (try clear hb); (try clear hb2); (try clear hk); (try clear hi)) | ((with_reducible refine gate_dst (N := 11) rfl ?_); refine box_event ?hg (N := 11) ?hd (cs := #[.int .i64 0, .int .i64 0]) (t := 25) ?hr ?_; (case hd => rfl); (case hg => rfl); (case hr => first | (go_simp; done) | (go_simp; rfl)); intro gb253 hg w160 hbox hb; have n0_ := Aside0.mk (blk_below (g := gb236) (o := .cells #[.int .i64 t233, .int .i64 t234] 25 (0, 0)) (kb BK236.out) hb); have n1_ := Aside0.mk (blk_below (g := gb240) (o := .cells #[.int .i64 t237, .int .i64 t238] 25 (0, 0)) (kb BK240.out) hb); have n2_ := Aside0.mk (blk_below (g := gb244) (o := .cells #[.int .i64 t241, .int .i64 t242] 25 (0, 0)) (kb BK244.out) hb); have n3_ := Aside0.mk (blk_below (g := gb249) (o := .cells #[.int .i64 t246, .int .i64 t247] 25 (0, 0)) (kb BK249.out) hb); have n4_ := Aside0.mk (below_step (lb4 HB.out GE236.out GE240.out GE244.out GE249.out) hb); have n5_ := Aside0.mk (hbox); have n6_ := Aside0.mk ((by rw [hg]; exact (below_size (lb4 HB.out GE236.out GE240.out GE244.out GE249.out)) : w.heap.size ≤ gb253)); have n7_ := Aside0.mk ((by rw [hg]; exact (below_size (lb4 HB.out GE236.out GE240.out GE244.out GE249.out)) : w.heap.size ≤ gb253)); have n8_ := Aside0.mk ((by rw [hg]; exact Nat.ne_of_lt (blk_lt (g := gb236) (o := .cells #[.int .i64 t233, .int .i64 t234] 25 (0, 0)) (kb BK236.out)) : gb236 ≠ gb253)); have n9_ := Aside0.mk ((by rw [hg]; exact Nat.ne_of_gt (blk_lt (g := gb236) (o := .cells #[.int .i64 t233, .int .i64 t234] 25 (0, 0)) (kb BK236.out)) : gb253 ≠ gb236)); have n10_ := Aside0.mk ((by rw [hg]; exact Nat.ne_of_lt (blk_lt (g := gb240) (o := .cells #[.int .i64 t237, .int .i64 t238] 25 (0, 0)) (kb BK240.out)) : gb240 ≠ gb253)); have n11_ := Aside0.mk ((by rw [hg]; exact Nat.ne_of_gt (blk_lt (g := gb240) (o := .cells #[.int .i64 t237, .int .i64 t238] 25 (0, 0)) (kb BK240.out)) : gb253 ≠ gb240)); have n12_ := Aside0.mk ((by rw [hg]; exact Nat.ne_of_lt (blk_lt (g := gb244) (o := .cells #[.int .i64 t241, .int .i64 t242] 25 (0, 0)) (kb BK244.out)) : gb244 ≠ gb253)); have n13_ := Aside0.mk ((by rw [hg]; exact Nat.ne_of_gt (blk_lt (g := gb244) (o := .cells #[.int .i64 t241, .int .i64 t242] 25 (0, 0)) (kb BK244.out)) : gb253 ≠ gb244)); have n14_ := Aside0.mk ((by rw [hg]; exact Nat.ne_of_lt (blk_lt (g := gb249) (o := .cells #[.int .i64 t246, .int .i64 t247] 25 (0, 0)) (kb BK249.out)) : gb249 ≠ gb253)); have n15_ := Aside0.mk ((by rw [hg]; exact Nat.ne_of_gt (blk_lt (g := gb249) (o := .cells #[.int .i64 t246, .int .i64 t247] 25 (0, 0)) (kb BK249.out)) : gb253 ≠ gb249)); clear BK236; clear BK240; clear BK244; clear BK249; clear HB; have BK236 := n0_; have BK240 := n1_; have BK244 := n2_; have BK249 := n3_; have HB := n4_; have BK253 := n5_; have GW253 := n6_; have GE253 := n7_; have NB236_253 := n8_; have NB253_236 := n9_; have NB240_253 := n10_; have NB253_240 := n11_; have NB244_253 := n12_; have NB253_244 := n13_; have NB249_253 := n14_; have NB253_249 := n15_; clear n0_ n1_ n2_ n3_ n4_ n5_ n6_ n7_ n8_ n9_ n10_ n11_ n12_ n13_ n14_ n15_; clear hb hbox hg; have hnb161 := NB253_236.out; have hnc161 := NB236_253.out; have hnb162 := NB253_240.out; have hnc162 := NB240_253.out; have hnb163 := NB253_244.out; have hnc163 := NB244_253.out; have hnb164 := NB253_249.out; have hnc164 := NB249_253.out; have hcz165_0 : w160.cell? ⟨gb253, 0, none⟩ = some (.int .i64 0) := (blk_cell BK253.out 0).trans rfl; have hcz165_1 : w160.cell? ⟨gb253, 1, none⟩ = some (.int .i64 0) := (blk_cell BK253.out 1).trans rfl; have hfz165_0 := blk_frozen BK253.out 0; have hfz165_1 := blk_frozen BK253.out 1))
           have n0_ : Aside0 (((w160.setCell ⟨gb253, 0, none⟩ (.int .i64 t250)).setCell ⟨gb253, 1, none⟩ (.int .i64 t251)).heap[gb236]? = some (.cells #[.int .i64 t233, .int .i64 t234] 25 (0, 0))) := ⟨kf1 BK236.out NB236_253.out⟩
           have n1_ : Aside0 (((w160.setCell ⟨gb253, 0, none⟩ (.int .i64 t250)).setCell ⟨gb253, 1, none⟩ (.int .i64 t251)).heap[gb240]? = some (.cells #[.int .i64 t237, .int .i64 t238] 25 (0, 0))) := ⟨kf1 BK240.out NB240_253.out⟩
           have n2_ : Aside0 (((w160.setCell ⟨gb253, 0, none⟩ (.int .i64 t250)).setCell ⟨gb253, 1, none⟩ (.int .i64 t251)).heap[gb244]? = some (.cells #[.int .i64 t241, .int .i64 t242] 25 (0, 0))) := ⟨kf1 BK244.out NB244_253.out⟩
           have n3_ : Aside0 (((w160.setCell ⟨gb253, 0, none⟩ (.int .i64 t250)).setCell ⟨gb253, 1, none⟩ (.int .i64 t251)).heap[gb249]? = some (.cells #[.int .i64 t246, .int .i64 t247] 25 (0, 0))) := ⟨kf1 BK249.out NB249_253.out⟩
           have n4_ : Aside0 (((w160.setCell ⟨gb253, 0, none⟩ (.int .i64 t250)).setCell ⟨gb253, 1, none⟩ (.int .i64 t251)).heap[gb253]? = some (.cells #[.int .i64 t250, .int .i64 t251] 25 (0, 0))) := ⟨by (with_reducible repeat (first | refine blk_drewN ?_ _ | refine blk_drew ?_ | refine blk_alloc ?_ _)); refine blk_put (cs := #[.int .i64 t250, .int .i64 0]) ?_ 1 _ rfl; (with_reducible repeat (first | refine blk_drewN ?_ _ | refine blk_drew ?_ | refine blk_alloc ?_ _)); refine blk_put (cs := #[.int .i64 0, .int .i64 0]) ?_ 0 _ rfl; (with_reducible repeat (first | refine blk_drewN ?_ _ | refine blk_drew ?_ | refine blk_alloc ?_ _)); exact BK253.out⟩
           have n5_ : Aside0 (Below w.heap.size w ((w160.setCell ⟨gb253, 0, none⟩ (.int .i64 t250)).setCell ⟨gb253, 1, none⟩ (.int .i64 t251))) := ⟨by repeat (first | (with_reducible first | exact HB.out | apply below_alloc | apply pw_below_drewN | apply below_drew1 | refine below_set ?_ GE236.out | refine below_set ?_ GE240.out | refine below_set ?_ GE244.out | refine below_set ?_ GE249.out | refine below_set ?_ GE253.out) | exact HB.out)⟩
           (try clear BK236)
           (try clear BK240)
           (try clear BK244)
           (try clear BK249)
           (try clear BK253)
           (try clear HB)
           generalize ((w160.setCell ⟨gb253, 0, none⟩ (.int .i64 t250)).setCell ⟨gb253, 1, none⟩ (.int .i64 t251)) = w166 at n0_ n1_ n2_ n3_ n4_ n5_ ⊢
           have BK236 := n0_
           have BK240 := n1_
           have BK244 := n2_
           have BK249 := n3_
           have BK253 := n4_
           have HB := n5_
           clear n0_ n1_ n2_ n3_ n4_ n5_
           have n0_ := Aside0.mk (blk_drew BK236.out)
           have n1_ := Aside0.mk (blk_drew BK240.out)
           have n2_ := Aside0.mk (blk_drew BK244.out)
           have n3_ := Aside0.mk (blk_drew BK249.out)
           have n4_ := Aside0.mk (blk_drew BK253.out)
           have n5_ := Aside0.mk (below_drew1 HB.out)
           clear BK236
           clear BK240
           clear BK244
           clear BK249
           clear BK253
           clear HB
           have BK236 := n0_
           have BK240 := n1_
           have BK244 := n2_
           have BK249 := n3_
           have BK253 := n4_
           have HB := n5_
           clear n0_ n1_ n2_ n3_ n4_ n5_
           refine start_ (n := 10) (S := fun w' => w'.cell? ⟨gb240, 0, none⟩ = some (.int .i64 t237) ∧ w'.cell? ⟨gb240, 1, none⟩ = some (.int .i64 t238)) (ds := []) #[false, false, false, false, false, false, false, false, false, false] (by kernel_rfl) rfl rfl ⟨(blk_cell BK240.out 0).trans rfl, (blk_cell BK240.out 1).trans rfl⟩ (fun hHeld => ?_); refine with_tabW laws_FnDancedFrom.tab12 laws_FnDancedFrom.bits12 (fun HT_ HW_ => ?_)
           generalize w166.drew = w167 at BK236 BK240 BK244 BK249 BK253 HB hHeld ⊢
           refine pure_ (i := 1) (N := some 63) (v := ?_) (a' := ?_) #[false, true, false, false, false, false, false, false, false, false] rfl rfl (any_of HT_.out (by kernel_rfl)) (fun _ _ _ h => h) (Or.inl ⟨by rfl, ?_⟩) ?_ ?_
           rotate_left
           ·
            intro w'
            go_simp
            with_reducible rfl
           rotate_left
           ·
            simp only [Act.put, List.setIfInBounds_toArray, List.set_cons_zero, List.set_cons_succ, i64_w, i32_w]
            rfl
           refine take_ (i := 0) (N := some 62) (v := ?_) (a' := ?_) #[true, true, false, false, false, false, false, false, false, false] rfl rfl (take_ofW HT_.out HW_.out (by kernel_rfl)) (fun _ _ _ h => h) (Or.inl ⟨by rfl, ?_⟩) hHeld ?_ ?_
           rotate_left
           ·
            rintro w' ⟨s0, s1⟩
            go_simp
            with_reducible rfl
           rotate_left
           ·
            simp only [Act.put, List.setIfInBounds_toArray, List.set_cons_zero, List.set_cons_succ, i64_w, i32_w]
            rfl
           refine join_ (σ := Nat) 2 #[true, true, true, true, true, true, true, true, false, false] (fun s_ => [(64, .string t254), (65, .tuple #[.agg #[.int .i64 t255, .int .i64 t256], .bool true]), (13, .pointer (some ⟨s_, 0, none⟩)), (61, .tuple #[.agg #[.int .i64 t255, .int .i64 t256], .bool true]), (66, .agg #[.int .i64 t255, .int .i64 t256]), (67, .bool true)]) (fun s_ w' => (w'.cell? ⟨gb240, 0, none⟩ = some (.int .i64 t237) ∧ w'.cell? ⟨gb240, 1, none⟩ = some (.int .i64 t238)) ∧ (w'.heap[gb236]? = some (.cells #[.int .i64 t233, .int .i64 t234] 25 (0, 0))) ∧ (w'.heap[gb240]? = some (.cells #[.int .i64 t237, .int .i64 t238] 25 (0, 0))) ∧ (w'.heap[gb244]? = some (.cells #[.int .i64 t241, .int .i64 t242] 25 (0, 0))) ∧ (w'.heap[gb249]? = some (.cells #[.int .i64 t246, .int .i64 t247] 25 (0, 0))) ∧ (w'.heap[gb253]? = some (.cells #[.int .i64 t250, .int .i64 t251] 25 (0, 0))) ∧ (w'.heap[s_]? = some (.cells #[.int .i64 0, .int .i64 0] 25 (0, 0))) ∧ (w.heap.size ≤ s_) ∧ (w.heap.size ≤ s_) ∧ (gb236 ≠ s_) ∧ (s_ ≠ gb236) ∧ (gb240 ≠ s_) ∧ (s_ ≠ gb240) ∧ (gb244 ≠ s_) ∧ (s_ ≠ gb244) ∧ (gb249 ≠ s_) ∧ (s_ ≠ gb249) ∧ (gb253 ≠ s_) ∧ (s_ ≠ gb253) ∧ (Below w.heap.size w w')) ?_ ?_
           rotate_left
           ·
            intro hCont
            refine two_ (i := 2) (j := 7) (Ni := some 64) (Nj := some 13) #[true, true, true, false, false, false, false, false, false, false] #[true, true, false, false, false, false, false, true, false, false] rfl rfl rfl rfl (two_of HT_.out (by kernel_rfl)) (by decide) (by decide) (fun K hK => ?_) (fun K hK => ?_)
            ·
             skip
             refine goes_ Tryd.func44 (by kernel_rfl) rfl #[.string t235] (by rfl) rfl rfl (by (try simp only [List.map_toArray, List.map_cons, List.map_nil]); first | done | rfl | (simp only [List.length_drop, List.length_take]; rfl)) ?_
             with_reducible refine (impl_BackOf.calls kj5 t235 t254 _ A35.out).mono ?_
             rintro e w168 ⟨rfl, hb⟩
             refine ⟨_, rfl, ?_⟩
             have n0_ := Aside0.mk (blk_below (g := gb236) (o := .cells #[.int .i64 t233, .int .i64 t234] 25 (0, 0)) (kb BK236.out) hb)
             have n1_ := Aside0.mk (blk_below (g := gb240) (o := .cells #[.int .i64 t237, .int .i64 t238] 25 (0, 0)) (kb BK240.out) hb)
             have n2_ := Aside0.mk (blk_below (g := gb244) (o := .cells #[.int .i64 t241, .int .i64 t242] 25 (0, 0)) (kb BK244.out) hb)
             have n3_ := Aside0.mk (blk_below (g := gb249) (o := .cells #[.int .i64 t246, .int .i64 t247] 25 (0, 0)) (kb BK249.out) hb)
             have n4_ := Aside0.mk (blk_below (g := gb253) (o := .cells #[.int .i64 t250, .int .i64 t251] 25 (0, 0)) (kb BK253.out) hb)
             have n5_ := Aside0.mk (below_step (lb5 HB.out GE236.out GE240.out GE244.out GE249.out GE253.out) hb)
             clear BK236
             clear BK240
             clear BK244
             clear BK249
             clear BK253
             clear HB
             have BK236 := n0_
             have BK240 := n1_
             have BK244 := n2_
             have BK249 := n3_
             have BK253 := n4_
             have HB := n5_
             clear n0_ n1_ n2_ n3_ n4_ n5_
             (try clear hb)
             (try clear hb2)
             (try clear hk)
             (try clear hi)
             refine hK.out _ _ ⟨(blk_cell BK240.out 0).trans rfl, (blk_cell BK240.out 1).trans rfl⟩ (fun hHeld => ?_)
             clear hK K
             refine norm_ (a' := ?_) ?_ ?_
             rotate_left
             ·
              show Act.put _ (some 64) _ = _
              simp only [Act.put, List.setIfInBounds_toArray, List.set_cons_zero, List.set_cons_succ, i64_w, i32_w]
              rfl
             refine two_ (i := 3) (j := 7) (Ni := some 65) (Nj := some 13) #[true, true, true, true, false, false, false, false, false, false] #[true, true, true, false, false, false, false, true, false, false] rfl rfl rfl rfl (two_of HT_.out (by kernel_rfl)) (by decide) (by decide) (fun K hK => ?_) (fun K hK => ?_)
             ·
              skip
              refine goes_ Tryd.func19 (by kernel_rfl) rfl #[.agg #[.int .i64 t237, .int .i64 t238], .string t254] (by rfl) rfl rfl (by (try simp only [List.map_toArray, List.map_cons, List.map_nil]); first | done | rfl | (simp only [List.length_drop, List.length_take]; rfl)) ?_
              with_reducible refine (impl_DancedFrom.calls kj5 t237 t238 t254 t255 t256 true _ A36.out).mono ?_
              rintro e w169 ⟨rfl, hb⟩
              refine ⟨_, rfl, ?_⟩
              have n0_ := Aside0.mk (blk_below (g := gb236) (o := .cells #[.int .i64 t233, .int .i64 t234] 25 (0, 0)) (kb BK236.out) hb)
              have n1_ := Aside0.mk (blk_below (g := gb240) (o := .cells #[.int .i64 t237, .int .i64 t238] 25 (0, 0)) (kb BK240.out) hb)
              have n2_ := Aside0.mk (blk_below (g := gb244) (o := .cells #[.int .i64 t241, .int .i64 t242] 25 (0, 0)) (kb BK244.out) hb)
              have n3_ := Aside0.mk (blk_below (g := gb249) (o := .cells #[.int .i64 t246, .int .i64 t247] 25 (0, 0)) (kb BK249.out) hb)
              have n4_ := Aside0.mk (blk_below (g := gb253) (o := .cells #[.int .i64 t250, .int .i64 t251] 25 (0, 0)) (kb BK253.out) hb)
              have n5_ := Aside0.mk (below_step (lb5 HB.out GE236.out GE240.out GE244.out GE249.out GE253.out) hb)
              clear BK236
              clear BK240
              clear BK244
              clear BK249
              clear BK253
              clear HB
              have BK236 := n0_
              have BK240 := n1_
              have BK244 := n2_
              have BK249 := n3_
              have BK253 := n4_
              have HB := n5_
              clear n0_ n1_ n2_ n3_ n4_ n5_
              (try clear hb)
              (try clear hb2)
              (try clear hk)
              (try clear hi)
              refine hK.out _ _ ⟨(blk_cell BK240.out 0).trans rfl, (blk_cell BK240.out 1).trans rfl⟩ (fun hHeld => ?_)
              clear hK K
              refine norm_ (a' := ?_) ?_ ?_
              rotate_left
              ·
               show Act.put _ (some 65) _ = _
               simp only [Act.put, List.setIfInBounds_toArray, List.set_cons_zero, List.set_cons_succ, i64_w, i32_w]
               rfl
              refine pure_ (i := 4) (N := some 61) (v := ?_) (a' := ?_) #[true, true, true, true, true, false, false, false, false, false] rfl rfl (any_of HT_.out (by kernel_rfl)) (fun _ _ _ h => h) (Or.inl ⟨by rfl, ?_⟩) ?_ ?_
              rotate_left
              ·
               intro w'
               go_simp
               with_reducible rfl
              rotate_left
              ·
               simp only [Act.put, List.setIfInBounds_toArray, List.set_cons_zero, List.set_cons_succ, i64_w, i32_w]
               rfl
              refine pure_ (i := 5) (N := some 66) (v := ?_) (a' := ?_) #[true, true, true, true, true, true, false, false, false, false] rfl rfl (any_of HT_.out (by kernel_rfl)) (fun _ _ _ h => h) (Or.inl ⟨by rfl, ?_⟩) ?_ ?_
              rotate_left
              ·
               intro w'
               go_simp
               with_reducible rfl
              rotate_left
              ·
               simp only [Act.put, List.setIfInBounds_toArray, List.set_cons_zero, List.set_cons_succ, i64_w, i32_w]
               rfl
              refine pure_ (i := 6) (N := some 67) (v := ?_) (a' := ?_) #[true, true, true, true, true, true, true, false, false, false] rfl rfl (any_of HT_.out (by kernel_rfl)) (fun _ _ _ h => h) (Or.inl ⟨by rfl, ?_⟩) ?_ ?_
              rotate_left
              ·
               intro w'
               go_simp
               with_reducible rfl
              rotate_left
              ·
               simp only [Act.put, List.setIfInBounds_toArray, List.set_cons_zero, List.set_cons_succ, i64_w, i32_w]
               rfl
              refine one_ (i := 7) (N := some 13) #[true, true, true, true, true, true, true, true, false, false] rfl rfl (one_of HT_.out (by kernel_rfl)) (by decide) (fun K hK => ?_)
              refine box_step ?hg (N := 13) ?hd (cs := #[.int .i64 0, .int .i64 0]) (t := 25) ?hr ?_; (case hd => rfl); (case hg => rfl); (case hr => first | (go_simp; done) | (go_simp; rfl))
              intro gb258 hg w170 hbox hb
              have n0_ := Aside0.mk (blk_below (g := gb236) (o := .cells #[.int .i64 t233, .int .i64 t234] 25 (0, 0)) (kb BK236.out) hb)
              have n1_ := Aside0.mk (blk_below (g := gb240) (o := .cells #[.int .i64 t237, .int .i64 t238] 25 (0, 0)) (kb BK240.out) hb)
              have n2_ := Aside0.mk (blk_below (g := gb244) (o := .cells #[.int .i64 t241, .int .i64 t242] 25 (0, 0)) (kb BK244.out) hb)
              have n3_ := Aside0.mk (blk_below (g := gb249) (o := .cells #[.int .i64 t246, .int .i64 t247] 25 (0, 0)) (kb BK249.out) hb)
              have n4_ := Aside0.mk (blk_below (g := gb253) (o := .cells #[.int .i64 t250, .int .i64 t251] 25 (0, 0)) (kb BK253.out) hb)
              have n5_ := Aside0.mk (below_step (lb5 HB.out GE236.out GE240.out GE244.out GE249.out GE253.out) hb)
              have n6_ := Aside0.mk (hbox)
              have n7_ := Aside0.mk ((by rw [hg]; exact (below_size (lb5 HB.out GE236.out GE240.out GE244.out GE249.out GE253.out)) : w.heap.size ≤ gb258))
              have n8_ := Aside0.mk ((by rw [hg]; exact (below_size (lb5 HB.out GE236.out GE240.out GE244.out GE249.out GE253.out)) : w.heap.size ≤ gb258))
              have n9_ := Aside0.mk ((by rw [hg]; exact Nat.ne_of_lt (blk_lt (g := gb236) (o := .cells #[.int .i64 t233, .int .i64 t234] 25 (0, 0)) (kb BK236.out)) : gb236 ≠ gb258))
              have n10_ := Aside0.mk ((by rw [hg]; exact Nat.ne_of_gt (blk_lt (g := gb236) (o := .cells #[.int .i64 t233, .int .i64 t234] 25 (0, 0)) (kb BK236.out)) : gb258 ≠ gb236))
              have n11_ := Aside0.mk ((by rw [hg]; exact Nat.ne_of_lt (blk_lt (g := gb240) (o := .cells #[.int .i64 t237, .int .i64 t238] 25 (0, 0)) (kb BK240.out)) : gb240 ≠ gb258))
              have n12_ := Aside0.mk ((by rw [hg]; exact Nat.ne_of_gt (blk_lt (g := gb240) (o := .cells #[.int .i64 t237, .int .i64 t238] 25 (0, 0)) (kb BK240.out)) : gb258 ≠ gb240))
              have n13_ := Aside0.mk ((by rw [hg]; exact Nat.ne_of_lt (blk_lt (g := gb244) (o := .cells #[.int .i64 t241, .int .i64 t242] 25 (0, 0)) (kb BK244.out)) : gb244 ≠ gb258))
              have n14_ := Aside0.mk ((by rw [hg]; exact Nat.ne_of_gt (blk_lt (g := gb244) (o := .cells #[.int .i64 t241, .int .i64 t242] 25 (0, 0)) (kb BK244.out)) : gb258 ≠ gb244))
              have n15_ := Aside0.mk ((by rw [hg]; exact Nat.ne_of_lt (blk_lt (g := gb249) (o := .cells #[.int .i64 t246, .int .i64 t247] 25 (0, 0)) (kb BK249.out)) : gb249 ≠ gb258))
              have n16_ := Aside0.mk ((by rw [hg]; exact Nat.ne_of_gt (blk_lt (g := gb249) (o := .cells #[.int .i64 t246, .int .i64 t247] 25 (0, 0)) (kb BK249.out)) : gb258 ≠ gb249))
              have n17_ := Aside0.mk ((by rw [hg]; exact Nat.ne_of_lt (blk_lt (g := gb253) (o := .cells #[.int .i64 t250, .int .i64 t251] 25 (0, 0)) (kb BK253.out)) : gb253 ≠ gb258))
              have n18_ := Aside0.mk ((by rw [hg]; exact Nat.ne_of_gt (blk_lt (g := gb253) (o := .cells #[.int .i64 t250, .int .i64 t251] 25 (0, 0)) (kb BK253.out)) : gb258 ≠ gb253))
              clear BK236
              clear BK240
              clear BK244
              clear BK249
              clear BK253
              clear HB
              have BK236 := n0_
              have BK240 := n1_
              have BK244 := n2_
              have BK249 := n3_
              have BK253 := n4_
              have HB := n5_
              have BK258 := n6_
              have GW258 := n7_
              have GE258 := n8_
              have NB236_258 := n9_
              have NB258_236 := n10_
              have NB240_258 := n11_
              have NB258_240 := n12_
              have NB244_258 := n13_
              have NB258_244 := n14_
              have NB249_258 := n15_
              have NB258_249 := n16_
              have NB253_258 := n17_
              have NB258_253 := n18_
              clear n0_ n1_ n2_ n3_ n4_ n5_ n6_ n7_ n8_ n9_ n10_ n11_ n12_ n13_ n14_ n15_ n16_ n17_ n18_
              clear hb hbox hg
              refine hK.out _ _ ⟨(blk_cell BK240.out 0).trans rfl, (blk_cell BK240.out 1).trans rfl⟩ (fun hHeld => ?_)
              clear hK K
              refine norm_ (a' := ?_) ?_ ?_
              rotate_left
              ·
               show Act.put _ (some 13) _ = _
               simp only [Act.put, List.setIfInBounds_toArray, List.set_cons_zero, List.set_cons_succ, i64_w, i32_w]
               rfl
              exact norm_ (by simp only [putAll, Act.put, List.setIfInBounds_toArray, List.set_cons_zero, List.set_cons_succ]) (hCont (gb258) _ ⟨hHeld, (kb BK236.out), (kb BK240.out), (kb BK244.out), (kb BK249.out), (kb BK253.out), (kb BK258.out), GW258.out, GE258.out, NB236_258.out, NB258_236.out, NB240_258.out, NB258_240.out, NB244_258.out, NB258_244.out, NB249_258.out, NB258_249.out, NB253_258.out, NB258_253.out, (lb6 HB.out GE236.out GE240.out GE244.out GE249.out GE253.out GE258.out)⟩)
             ·
              skip
              refine box_step ?hg (N := 13) ?hd (cs := #[.int .i64 0, .int .i64 0]) (t := 25) ?hr ?_; (case hd => rfl); (case hg => rfl); (case hr => first | (go_simp; done) | (go_simp; rfl))
              intro gb258 hg w169 hbox hb
              have n0_ := Aside0.mk (blk_below (g := gb236) (o := .cells #[.int .i64 t233, .int .i64 t234] 25 (0, 0)) (kb BK236.out) hb)
              have n1_ := Aside0.mk (blk_below (g := gb240) (o := .cells #[.int .i64 t237, .int .i64 t238] 25 (0, 0)) (kb BK240.out) hb)
              have n2_ := Aside0.mk (blk_below (g := gb244) (o := .cells #[.int .i64 t241, .int .i64 t242] 25 (0, 0)) (kb BK244.out) hb)
              have n3_ := Aside0.mk (blk_below (g := gb249) (o := .cells #[.int .i64 t246, .int .i64 t247] 25 (0, 0)) (kb BK249.out) hb)
              have n4_ := Aside0.mk (blk_below (g := gb253) (o := .cells #[.int .i64 t250, .int .i64 t251] 25 (0, 0)) (kb BK253.out) hb)
              have n5_ := Aside0.mk (below_step (lb5 HB.out GE236.out GE240.out GE244.out GE249.out GE253.out) hb)
              have n6_ := Aside0.mk (hbox)
              have n7_ := Aside0.mk ((by rw [hg]; exact (below_size (lb5 HB.out GE236.out GE240.out GE244.out GE249.out GE253.out)) : w.heap.size ≤ gb258))
              have n8_ := Aside0.mk ((by rw [hg]; exact (below_size (lb5 HB.out GE236.out GE240.out GE244.out GE249.out GE253.out)) : w.heap.size ≤ gb258))
              have n9_ := Aside0.mk ((by rw [hg]; exact Nat.ne_of_lt (blk_lt (g := gb236) (o := .cells #[.int .i64 t233, .int .i64 t234] 25 (0, 0)) (kb BK236.out)) : gb236 ≠ gb258))
              have n10_ := Aside0.mk ((by rw [hg]; exact Nat.ne_of_gt (blk_lt (g := gb236) (o := .cells #[.int .i64 t233, .int .i64 t234] 25 (0, 0)) (kb BK236.out)) : gb258 ≠ gb236))
              have n11_ := Aside0.mk ((by rw [hg]; exact Nat.ne_of_lt (blk_lt (g := gb240) (o := .cells #[.int .i64 t237, .int .i64 t238] 25 (0, 0)) (kb BK240.out)) : gb240 ≠ gb258))
              have n12_ := Aside0.mk ((by rw [hg]; exact Nat.ne_of_gt (blk_lt (g := gb240) (o := .cells #[.int .i64 t237, .int .i64 t238] 25 (0, 0)) (kb BK240.out)) : gb258 ≠ gb240))
              have n13_ := Aside0.mk ((by rw [hg]; exact Nat.ne_of_lt (blk_lt (g := gb244) (o := .cells #[.int .i64 t241, .int .i64 t242] 25 (0, 0)) (kb BK244.out)) : gb244 ≠ gb258))
              have n14_ := Aside0.mk ((by rw [hg]; exact Nat.ne_of_gt (blk_lt (g := gb244) (o := .cells #[.int .i64 t241, .int .i64 t242] 25 (0, 0)) (kb BK244.out)) : gb258 ≠ gb244))
              have n15_ := Aside0.mk ((by rw [hg]; exact Nat.ne_of_lt (blk_lt (g := gb249) (o := .cells #[.int .i64 t246, .int .i64 t247] 25 (0, 0)) (kb BK249.out)) : gb249 ≠ gb258))
              have n16_ := Aside0.mk ((by rw [hg]; exact Nat.ne_of_gt (blk_lt (g := gb249) (o := .cells #[.int .i64 t246, .int .i64 t247] 25 (0, 0)) (kb BK249.out)) : gb258 ≠ gb249))
              have n17_ := Aside0.mk ((by rw [hg]; exact Nat.ne_of_lt (blk_lt (g := gb253) (o := .cells #[.int .i64 t250, .int .i64 t251] 25 (0, 0)) (kb BK253.out)) : gb253 ≠ gb258))
              have n18_ := Aside0.mk ((by rw [hg]; exact Nat.ne_of_gt (blk_lt (g := gb253) (o := .cells #[.int .i64 t250, .int .i64 t251] 25 (0, 0)) (kb BK253.out)) : gb258 ≠ gb253))
              clear BK236
              clear BK240
              clear BK244
              clear BK249
              clear BK253
              clear HB
              have BK236 := n0_
              have BK240 := n1_
              have BK244 := n2_
              have BK249 := n3_
              have BK253 := n4_
              have HB := n5_
              have BK258 := n6_
              have GW258 := n7_
              have GE258 := n8_
              have NB236_258 := n9_
              have NB258_236 := n10_
              have NB240_258 := n11_
              have NB258_240 := n12_
              have NB244_258 := n13_
              have NB258_244 := n14_
              have NB249_258 := n15_
              have NB258_249 := n16_
              have NB253_258 := n17_
              have NB258_253 := n18_
              clear n0_ n1_ n2_ n3_ n4_ n5_ n6_ n7_ n8_ n9_ n10_ n11_ n12_ n13_ n14_ n15_ n16_ n17_ n18_
              clear hb hbox hg
              refine hK.out _ _ ⟨(blk_cell BK240.out 0).trans rfl, (blk_cell BK240.out 1).trans rfl⟩ (fun hHeld => ?_)
              clear hK K
              refine norm_ (a' := ?_) ?_ ?_
              rotate_left
              ·
               show Act.put _ (some 13) _ = _
               simp only [Act.put, List.setIfInBounds_toArray, List.set_cons_zero, List.set_cons_succ, i64_w, i32_w]
               rfl
              refine one_ (i := 3) (N := some 65) #[true, true, true, true, false, false, false, true, false, false] rfl rfl (one_of HT_.out (by kernel_rfl)) (by decide) (fun K hK => ?_)
              refine goes_ Tryd.func19 (by kernel_rfl) rfl #[.agg #[.int .i64 t237, .int .i64 t238], .string t254] (by rfl) rfl rfl (by (try simp only [List.map_toArray, List.map_cons, List.map_nil]); first | done | rfl | (simp only [List.length_drop, List.length_take]; rfl)) ?_
              with_reducible refine (impl_DancedFrom.calls kj5 t237 t238 t254 t255 t256 true _ A36.out).mono ?_
              rintro e w170 ⟨rfl, hb⟩
              refine ⟨_, rfl, ?_⟩
              have n0_ := Aside0.mk (blk_below (g := gb236) (o := .cells #[.int .i64 t233, .int .i64 t234] 25 (0, 0)) (kb BK236.out) hb)
              have n1_ := Aside0.mk (blk_below (g := gb240) (o := .cells #[.int .i64 t237, .int .i64 t238] 25 (0, 0)) (kb BK240.out) hb)
              have n2_ := Aside0.mk (blk_below (g := gb244) (o := .cells #[.int .i64 t241, .int .i64 t242] 25 (0, 0)) (kb BK244.out) hb)
              have n3_ := Aside0.mk (blk_below (g := gb249) (o := .cells #[.int .i64 t246, .int .i64 t247] 25 (0, 0)) (kb BK249.out) hb)
              have n4_ := Aside0.mk (blk_below (g := gb253) (o := .cells #[.int .i64 t250, .int .i64 t251] 25 (0, 0)) (kb BK253.out) hb)
              have n5_ := Aside0.mk (blk_below (g := gb258) (o := .cells #[.int .i64 0, .int .i64 0] 25 (0, 0)) (kb BK258.out) hb)
              have n6_ := Aside0.mk (below_step (lb6 HB.out GE236.out GE240.out GE244.out GE249.out GE253.out GE258.out) hb)
              clear BK236
              clear BK240
              clear BK244
              clear BK249
              clear BK253
              clear BK258
              clear HB
              have BK236 := n0_
              have BK240 := n1_
              have BK244 := n2_
              have BK249 := n3_
              have BK253 := n4_
              have BK258 := n5_
              have HB := n6_
              clear n0_ n1_ n2_ n3_ n4_ n5_ n6_
              (try clear hb)
              (try clear hb2)
              (try clear hk)
              (try clear hi)
              refine hK.out _ _ ⟨(blk_cell BK240.out 0).trans rfl, (blk_cell BK240.out 1).trans rfl⟩ (fun hHeld => ?_)
              clear hK K
              refine norm_ (a' := ?_) ?_ ?_
              rotate_left
              ·
               show Act.put _ (some 65) _ = _
               simp only [Act.put, List.setIfInBounds_toArray, List.set_cons_zero, List.set_cons_succ, i64_w, i32_w]
               rfl
              refine pure_ (i := 4) (N := some 61) (v := ?_) (a' := ?_) #[true, true, true, true, true, false, false, true, false, false] rfl rfl (any_of HT_.out (by kernel_rfl)) (fun _ _ _ h => h) (Or.inl ⟨by rfl, ?_⟩) ?_ ?_
              rotate_left
              ·
               intro w'
               go_simp
               with_reducible rfl
              rotate_left
              ·
               simp only [Act.put, List.setIfInBounds_toArray, List.set_cons_zero, List.set_cons_succ, i64_w, i32_w]
               rfl
              refine pure_ (i := 5) (N := some 66) (v := ?_) (a' := ?_) #[true, true, true, true, true, true, false, true, false, false] rfl rfl (any_of HT_.out (by kernel_rfl)) (fun _ _ _ h => h) (Or.inl ⟨by rfl, ?_⟩) ?_ ?_
              rotate_left
              ·
               intro w'
               go_simp
               with_reducible rfl
              rotate_left
              ·
               simp only [Act.put, List.setIfInBounds_toArray, List.set_cons_zero, List.set_cons_succ, i64_w, i32_w]
               rfl
              refine pure_ (i := 6) (N := some 67) (v := ?_) (a' := ?_) #[true, true, true, true, true, true, true, true, false, false] rfl rfl (any_of HT_.out (by kernel_rfl)) (fun _ _ _ h => h) (Or.inl ⟨by rfl, ?_⟩) ?_ ?_
              rotate_left
              ·
               intro w'
               go_simp
               with_reducible rfl
              rotate_left
              ·
               simp only [Act.put, List.setIfInBounds_toArray, List.set_cons_zero, List.set_cons_succ, i64_w, i32_w]
               rfl
              exact norm_ (by simp only [putAll, Act.put, List.setIfInBounds_toArray, List.set_cons_zero, List.set_cons_succ]) (hCont (gb258) _ ⟨hHeld, (kb BK236.out), (kb BK240.out), (kb BK244.out), (kb BK249.out), (kb BK253.out), (kb BK258.out), GW258.out, GE258.out, NB236_258.out, NB258_236.out, NB240_258.out, NB258_240.out, NB244_258.out, NB258_244.out, NB249_258.out, NB258_249.out, NB253_258.out, NB258_253.out, (lb6 HB.out GE236.out GE240.out GE244.out GE249.out GE253.out GE258.out)⟩)
            ·
             skip
             refine box_step ?hg (N := 13) ?hd (cs := #[.int .i64 0, .int .i64 0]) (t := 25) ?hr ?_; (case hd => rfl); (case hg => rfl); (case hr => first | (go_simp; done) | (go_simp; rfl))
             intro gb258 hg w168 hbox hb
             have n0_ := Aside0.mk (blk_below (g := gb236) (o := .cells #[.int .i64 t233, .int .i64 t234] 25 (0, 0)) (kb BK236.out) hb)
             have n1_ := Aside0.mk (blk_below (g := gb240) (o := .cells #[.int .i64 t237, .int .i64 t238] 25 (0, 0)) (kb BK240.out) hb)
             have n2_ := Aside0.mk (blk_below (g := gb244) (o := .cells #[.int .i64 t241, .int .i64 t242] 25 (0, 0)) (kb BK244.out) hb)
             have n3_ := Aside0.mk (blk_below (g := gb249) (o := .cells #[.int .i64 t246, .int .i64 t247] 25 (0, 0)) (kb BK249.out) hb)
             have n4_ := Aside0.mk (blk_below (g := gb253) (o := .cells #[.int .i64 t250, .int .i64 t251] 25 (0, 0)) (kb BK253.out) hb)
             have n5_ := Aside0.mk (below_step (lb5 HB.out GE236.out GE240.out GE244.out GE249.out GE253.out) hb)
             have n6_ := Aside0.mk (hbox)
             have n7_ := Aside0.mk ((by rw [hg]; exact (below_size (lb5 HB.out GE236.out GE240.out GE244.out GE249.out GE253.out)) : w.heap.size ≤ gb258))
             have n8_ := Aside0.mk ((by rw [hg]; exact (below_size (lb5 HB.out GE236.out GE240.out GE244.out GE249.out GE253.out)) : w.heap.size ≤ gb258))
             have n9_ := Aside0.mk ((by rw [hg]; exact Nat.ne_of_lt (blk_lt (g := gb236) (o := .cells #[.int .i64 t233, .int .i64 t234] 25 (0, 0)) (kb BK236.out)) : gb236 ≠ gb258))
             have n10_ := Aside0.mk ((by rw [hg]; exact Nat.ne_of_gt (blk_lt (g := gb236) (o := .cells #[.int .i64 t233, .int .i64 t234] 25 (0, 0)) (kb BK236.out)) : gb258 ≠ gb236))
             have n11_ := Aside0.mk ((by rw [hg]; exact Nat.ne_of_lt (blk_lt (g := gb240) (o := .cells #[.int .i64 t237, .int .i64 t238] 25 (0, 0)) (kb BK240.out)) : gb240 ≠ gb258))
             have n12_ := Aside0.mk ((by rw [hg]; exact Nat.ne_of_gt (blk_lt (g := gb240) (o := .cells #[.int .i64 t237, .int .i64 t238] 25 (0, 0)) (kb BK240.out)) : gb258 ≠ gb240))
             have n13_ := Aside0.mk ((by rw [hg]; exact Nat.ne_of_lt (blk_lt (g := gb244) (o := .cells #[.int .i64 t241, .int .i64 t242] 25 (0, 0)) (kb BK244.out)) : gb244 ≠ gb258))
             have n14_ := Aside0.mk ((by rw [hg]; exact Nat.ne_of_gt (blk_lt (g := gb244) (o := .cells #[.int .i64 t241, .int .i64 t242] 25 (0, 0)) (kb BK244.out)) : gb258 ≠ gb244))
             have n15_ := Aside0.mk ((by rw [hg]; exact Nat.ne_of_lt (blk_lt (g := gb249) (o := .cells #[.int .i64 t246, .int .i64 t247] 25 (0, 0)) (kb BK249.out)) : gb249 ≠ gb258))
             have n16_ := Aside0.mk ((by rw [hg]; exact Nat.ne_of_gt (blk_lt (g := gb249) (o := .cells #[.int .i64 t246, .int .i64 t247] 25 (0, 0)) (kb BK249.out)) : gb258 ≠ gb249))
             have n17_ := Aside0.mk ((by rw [hg]; exact Nat.ne_of_lt (blk_lt (g := gb253) (o := .cells #[.int .i64 t250, .int .i64 t251] 25 (0, 0)) (kb BK253.out)) : gb253 ≠ gb258))
             have n18_ := Aside0.mk ((by rw [hg]; exact Nat.ne_of_gt (blk_lt (g := gb253) (o := .cells #[.int .i64 t250, .int .i64 t251] 25 (0, 0)) (kb BK253.out)) : gb258 ≠ gb253))
             clear BK236
             clear BK240
             clear BK244
             clear BK249
             clear BK253
             clear HB
             have BK236 := n0_
             have BK240 := n1_
             have BK244 := n2_
             have BK249 := n3_
             have BK253 := n4_
             have HB := n5_
             have BK258 := n6_
             have GW258 := n7_
             have GE258 := n8_
             have NB236_258 := n9_
             have NB258_236 := n10_
             have NB240_258 := n11_
             have NB258_240 := n12_
             have NB244_258 := n13_
             have NB258_244 := n14_
             have NB249_258 := n15_
             have NB258_249 := n16_
             have NB253_258 := n17_
             have NB258_253 := n18_
             clear n0_ n1_ n2_ n3_ n4_ n5_ n6_ n7_ n8_ n9_ n10_ n11_ n12_ n13_ n14_ n15_ n16_ n17_ n18_
             clear hb hbox hg
             refine hK.out _ _ ⟨(blk_cell BK240.out 0).trans rfl, (blk_cell BK240.out 1).trans rfl⟩ (fun hHeld => ?_)
             clear hK K
             refine norm_ (a' := ?_) ?_ ?_
             rotate_left
             ·
              show Act.put _ (some 13) _ = _
              simp only [Act.put, List.setIfInBounds_toArray, List.set_cons_zero, List.set_cons_succ, i64_w, i32_w]
              rfl
             refine one_ (i := 2) (N := some 64) #[true, true, true, false, false, false, false, true, false, false] rfl rfl (one_of HT_.out (by kernel_rfl)) (by decide) (fun K hK => ?_)
             refine goes_ Tryd.func44 (by kernel_rfl) rfl #[.string t235] (by rfl) rfl rfl (by (try simp only [List.map_toArray, List.map_cons, List.map_nil]); first | done | rfl | (simp only [List.length_drop, List.length_take]; rfl)) ?_
             with_reducible refine (impl_BackOf.calls kj5 t235 t254 _ A35.out).mono ?_
             rintro e w169 ⟨rfl, hb⟩
             refine ⟨_, rfl, ?_⟩
             have n0_ := Aside0.mk (blk_below (g := gb236) (o := .cells #[.int .i64 t233, .int .i64 t234] 25 (0, 0)) (kb BK236.out) hb)
             have n1_ := Aside0.mk (blk_below (g := gb240) (o := .cells #[.int .i64 t237, .int .i64 t238] 25 (0, 0)) (kb BK240.out) hb)
             have n2_ := Aside0.mk (blk_below (g := gb244) (o := .cells #[.int .i64 t241, .int .i64 t242] 25 (0, 0)) (kb BK244.out) hb)
             have n3_ := Aside0.mk (blk_below (g := gb249) (o := .cells #[.int .i64 t246, .int .i64 t247] 25 (0, 0)) (kb BK249.out) hb)
             have n4_ := Aside0.mk (blk_below (g := gb253) (o := .cells #[.int .i64 t250, .int .i64 t251] 25 (0, 0)) (kb BK253.out) hb)
             have n5_ := Aside0.mk (blk_below (g := gb258) (o := .cells #[.int .i64 0, .int .i64 0] 25 (0, 0)) (kb BK258.out) hb)
             have n6_ := Aside0.mk (below_step (lb6 HB.out GE236.out GE240.out GE244.out GE249.out GE253.out GE258.out) hb)
             clear BK236
             clear BK240
             clear BK244
             clear BK249
             clear BK253
             clear BK258
             clear HB
             have BK236 := n0_
             have BK240 := n1_
             have BK244 := n2_
             have BK249 := n3_
             have BK253 := n4_
             have BK258 := n5_
             have HB := n6_
             clear n0_ n1_ n2_ n3_ n4_ n5_ n6_
             (try clear hb)
             (try clear hb2)
             (try clear hk)
             (try clear hi)
             refine hK.out _ _ ⟨(blk_cell BK240.out 0).trans rfl, (blk_cell BK240.out 1).trans rfl⟩ (fun hHeld => ?_)
             clear hK K
             refine norm_ (a' := ?_) ?_ ?_
             rotate_left
             ·
              show Act.put _ (some 64) _ = _
              simp only [Act.put, List.setIfInBounds_toArray, List.set_cons_zero, List.set_cons_succ, i64_w, i32_w]
              rfl
             refine one_ (i := 3) (N := some 65) #[true, true, true, true, false, false, false, true, false, false] rfl rfl (one_of HT_.out (by kernel_rfl)) (by decide) (fun K hK => ?_)
             refine goes_ Tryd.func19 (by kernel_rfl) rfl #[.agg #[.int .i64 t237, .int .i64 t238], .string t254] (by rfl) rfl rfl (by (try simp only [List.map_toArray, List.map_cons, List.map_nil]); first | done | rfl | (simp only [List.length_drop, List.length_take]; rfl)) ?_
             with_reducible refine (impl_DancedFrom.calls kj5 t237 t238 t254 t255 t256 true _ A36.out).mono ?_
             rintro e w170 ⟨rfl, hb⟩
             refine ⟨_, rfl, ?_⟩
             have n0_ := Aside0.mk (blk_below (g := gb236) (o := .cells #[.int .i64 t233, .int .i64 t234] 25 (0, 0)) (kb BK236.out) hb)
             have n1_ := Aside0.mk (blk_below (g := gb240) (o := .cells #[.int .i64 t237, .int .i64 t238] 25 (0, 0)) (kb BK240.out) hb)
             have n2_ := Aside0.mk (blk_below (g := gb244) (o := .cells #[.int .i64 t241, .int .i64 t242] 25 (0, 0)) (kb BK244.out) hb)
             have n3_ := Aside0.mk (blk_below (g := gb249) (o := .cells #[.int .i64 t246, .int .i64 t247] 25 (0, 0)) (kb BK249.out) hb)
             have n4_ := Aside0.mk (blk_below (g := gb253) (o := .cells #[.int .i64 t250, .int .i64 t251] 25 (0, 0)) (kb BK253.out) hb)
             have n5_ := Aside0.mk (blk_below (g := gb258) (o := .cells #[.int .i64 0, .int .i64 0] 25 (0, 0)) (kb BK258.out) hb)
             have n6_ := Aside0.mk (below_step (lb6 HB.out GE236.out GE240.out GE244.out GE249.out GE253.out GE258.out) hb)
             clear BK236
             clear BK240
             clear BK244
             clear BK249
             clear BK253
             clear BK258
             clear HB
             have BK236 := n0_
             have BK240 := n1_
             have BK244 := n2_
             have BK249 := n3_
             have BK253 := n4_
             have BK258 := n5_
             have HB := n6_
             clear n0_ n1_ n2_ n3_ n4_ n5_ n6_
             (try clear hb)
             (try clear hb2)
             (try clear hk)
             (try clear hi)
             refine hK.out _ _ ⟨(blk_cell BK240.out 0).trans rfl, (blk_cell BK240.out 1).trans rfl⟩ (fun hHeld => ?_)
             clear hK K
             refine norm_ (a' := ?_) ?_ ?_
             rotate_left
             ·
              show Act.put _ (some 65) _ = _
              simp only [Act.put, List.setIfInBounds_toArray, List.set_cons_zero, List.set_cons_succ, i64_w, i32_w]
              rfl
             refine pure_ (i := 4) (N := some 61) (v := ?_) (a' := ?_) #[true, true, true, true, true, false, false, true, false, false] rfl rfl (any_of HT_.out (by kernel_rfl)) (fun _ _ _ h => h) (Or.inl ⟨by rfl, ?_⟩) ?_ ?_
             rotate_left
             ·
              intro w'
              go_simp
              with_reducible rfl
             rotate_left
             ·
              simp only [Act.put, List.setIfInBounds_toArray, List.set_cons_zero, List.set_cons_succ, i64_w, i32_w]
              rfl
             refine pure_ (i := 5) (N := some 66) (v := ?_) (a' := ?_) #[true, true, true, true, true, true, false, true, false, false] rfl rfl (any_of HT_.out (by kernel_rfl)) (fun _ _ _ h => h) (Or.inl ⟨by rfl, ?_⟩) ?_ ?_
             rotate_left
             ·
              intro w'
              go_simp
              with_reducible rfl
             rotate_left
             ·
              simp only [Act.put, List.setIfInBounds_toArray, List.set_cons_zero, List.set_cons_succ, i64_w, i32_w]
              rfl
             refine pure_ (i := 6) (N := some 67) (v := ?_) (a' := ?_) #[true, true, true, true, true, true, true, true, false, false] rfl rfl (any_of HT_.out (by kernel_rfl)) (fun _ _ _ h => h) (Or.inl ⟨by rfl, ?_⟩) ?_ ?_
             rotate_left
             ·
              intro w'
              go_simp
              with_reducible rfl
             rotate_left
             ·
              simp only [Act.put, List.setIfInBounds_toArray, List.set_cons_zero, List.set_cons_succ, i64_w, i32_w]
              rfl
             exact norm_ (by simp only [putAll, Act.put, List.setIfInBounds_toArray, List.set_cons_zero, List.set_cons_succ]) (hCont (gb258) _ ⟨hHeld, (kb BK236.out), (kb BK240.out), (kb BK244.out), (kb BK249.out), (kb BK253.out), (kb BK258.out), GW258.out, GE258.out, NB236_258.out, NB258_236.out, NB240_258.out, NB258_240.out, NB244_258.out, NB258_244.out, NB249_258.out, NB258_249.out, NB253_258.out, NB258_253.out, (lb6 HB.out GE236.out GE240.out GE244.out GE249.out GE253.out GE258.out)⟩)
           rintro gb258 w171 ⟨hS_, h0_, h1_, h2_, h3_, h4_, h5_, h6_, h7_, h8_, h9_, h10_, h11_, h12_, h13_, h14_, h15_, h16_, h17_, h18_⟩
           have n0_ : Aside0 (w171.heap[gb236]? = some (.cells #[.int .i64 t233, .int .i64 t234] 25 (0, 0))) := ⟨h0_⟩
           have n1_ : Aside0 (w171.heap[gb240]? = some (.cells #[.int .i64 t237, .int .i64 t238] 25 (0, 0))) := ⟨h1_⟩
           have n2_ : Aside0 (w171.heap[gb244]? = some (.cells #[.int .i64 t241, .int .i64 t242] 25 (0, 0))) := ⟨h2_⟩
           have n3_ : Aside0 (w171.heap[gb249]? = some (.cells #[.int .i64 t246, .int .i64 t247] 25 (0, 0))) := ⟨h3_⟩
           have n4_ : Aside0 (w171.heap[gb253]? = some (.cells #[.int .i64 t250, .int .i64 t251] 25 (0, 0))) := ⟨h4_⟩
           have n5_ : Aside0 (w171.heap[gb258]? = some (.cells #[.int .i64 0, .int .i64 0] 25 (0, 0))) := ⟨h5_⟩
           have n6_ : Aside0 (w.heap.size ≤ gb258) := ⟨h6_⟩
           have n7_ : Aside0 (w.heap.size ≤ gb258) := ⟨h7_⟩
           have n8_ : Aside0 (gb236 ≠ gb258) := ⟨h8_⟩
           have n9_ : Aside0 (gb258 ≠ gb236) := ⟨h9_⟩
           have n10_ : Aside0 (gb240 ≠ gb258) := ⟨h10_⟩
           have n11_ : Aside0 (gb258 ≠ gb240) := ⟨h11_⟩
           have n12_ : Aside0 (gb244 ≠ gb258) := ⟨h12_⟩
           have n13_ : Aside0 (gb258 ≠ gb244) := ⟨h13_⟩
           have n14_ : Aside0 (gb249 ≠ gb258) := ⟨h14_⟩
           have n15_ : Aside0 (gb258 ≠ gb249) := ⟨h15_⟩
           have n16_ : Aside0 (gb253 ≠ gb258) := ⟨h16_⟩
           have n17_ : Aside0 (gb258 ≠ gb253) := ⟨h17_⟩
           have n18_ : Aside0 (Below w.heap.size w w171) := ⟨h18_⟩
           clear BK236
           clear BK240
           clear BK244
           clear BK249
           clear BK253
           clear HB
           clear h0_ h1_ h2_ h3_ h4_ h5_ h6_ h7_ h8_ h9_ h10_ h11_ h12_ h13_ h14_ h15_ h16_ h17_ h18_
           have BK236 := n0_
           have BK240 := n1_
           have BK244 := n2_
           have BK249 := n3_
           have BK253 := n4_
           have BK258 := n5_
           have GW258 := n6_
           have GE258 := n7_
           have NB236_258 := n8_
           have NB258_236 := n9_
           have NB240_258 := n10_
           have NB258_240 := n11_
           have NB244_258 := n12_
           have NB258_244 := n13_
           have NB249_258 := n14_
           have NB258_249 := n15_
           have NB253_258 := n16_
           have NB258_253 := n17_
           have HB := n18_
           clear n0_ n1_ n2_ n3_ n4_ n5_ n6_ n7_ n8_ n9_ n10_ n11_ n12_ n13_ n14_ n15_ n16_ n17_ n18_
           have hHeld : w171.cell? ⟨gb240, 0, none⟩ = some (.int .i64 t237) ∧ w171.cell? ⟨gb240, 1, none⟩ = some (.int .i64 t238) := hS_
           refine norm_ (a' := ?_) ?_ ?_
           rotate_left
           ·
            simp only [putAll, Act.put, List.setIfInBounds_toArray, List.set_cons_zero, List.set_cons_succ]
            rfl
           refine one_ (i := 8) (N := none) #[true, true, true, true, true, true, true, true, true, false] rfl rfl (one_of HT_.out (by kernel_rfl)) (by decide) (fun K hK => ?_)
           have hs172 : w171.cell? ⟨gb258, 0, none⟩ = some (.int .i64 0) := (blk_cell BK258.out 0).trans rfl
           have hfs172 := blk_frozen BK258.out 0
           have hns172_0 := NB236_258.out
           have hns172_1 := NB240_258.out
           have hns172_2 := NB244_258.out
           have hns172_3 := NB249_258.out
           have hns172_4 := NB253_258.out
           have hms172_0 := NB258_236.out
           have hms172_1 := NB258_240.out
           have hms172_2 := NB258_244.out
           have hms172_3 := NB258_249.out
           have hms172_4 := NB258_253.out
           have hs173 : w171.cell? ⟨gb258, 1, none⟩ = some (.int .i64 0) := (blk_cell BK258.out 1).trans rfl
           have hfs173 := blk_frozen BK258.out 1
           have hns173_0 := NB236_258.out
           have hns173_1 := NB240_258.out
           have hns173_2 := NB244_258.out
           have hns173_3 := NB249_258.out
           have hns173_4 := NB253_258.out
           have hms173_0 := NB258_236.out
           have hms173_1 := NB258_240.out
           have hms173_2 := NB258_244.out
           have hms173_3 := NB258_249.out
           have hms173_4 := NB258_253.out
           refine skip_ (w1 := ?_) (by rfl) rfl ?_ ?_
           rotate_left
           ·
            go_simp
            rfl
           refine hK.out _ _ ⟨((cell_far (p := ⟨gb258, _, none⟩) NB240_258.out _).trans (((cell_far (p := ⟨gb258, _, none⟩) NB240_258.out _).trans (hHeld.1)))), ((cell_far (p := ⟨gb258, _, none⟩) NB240_258.out _).trans (((cell_far (p := ⟨gb258, _, none⟩) NB240_258.out _).trans (hHeld.2))))⟩ (fun hHeld => ?_)
           clear hK K
           refine pure_ (i := 9) (N := some 14) (v := ?_) (a' := ?_) #[true, true, true, true, true, true, true, true, true, true] rfl rfl (any_of HT_.out (by kernel_rfl)) (fun _ _ _ h => h) (Or.inl ⟨by rfl, ?_⟩) ?_ ?_
           rotate_left
           ·
            intro w'
            go_simp
            with_reducible rfl
           rotate_left
           ·
            simp only [Act.put, List.setIfInBounds_toArray, List.set_cons_zero, List.set_cons_succ, i64_w, i32_w]
            rfl
           refine done_ (done_of HT_.out (by kernel_rfl)) ?_
           have hnb174 := NB240_258.out
           have hnc174 := NB258_240.out
           have hcz175_0 : w171.cell? ⟨gb240, 0, none⟩ = some (.int .i64 t237) := (blk_cell BK240.out 0).trans rfl
           have hcz175_1 : w171.cell? ⟨gb240, 1, none⟩ = some (.int .i64 t238) := (blk_cell BK240.out 1).trans rfl
           have hfz175_0 := blk_frozen BK240.out 0
           have hfz175_1 := blk_frozen BK240.out 1
           try go_wp2_with (first | ((with_reducible refine gate_callee (f := 45) rfl ?_); refine goesL_ (some 69) rfl rfl Tryd.func45 (by kernel_rfl) rfl #[.agg #[.int .i64 t237, .int .i64 t238]] rfl (by (try simp only [List.map_toArray, List.map_cons, List.map_nil]); first | done | rfl | (simp only [List.length_drop, List.length_take]; rfl)) ?_; (with_reducible refine (impl_FractionOk.calls kj5 t237 t238 true _ A37.out).mono ?_); rintro e w176 ⟨rfl, hb⟩; refine ⟨_, rfl, ?_⟩; have n0_ := Aside0.mk (blk_below (g := gb236) (o := .cells #[.int .i64 t233, .int .i64 t234] 25 (0, 0)) (kf1 BK236.out NB236_258.out) hb); have n1_ := Aside0.mk (blk_below (g := gb240) (o := .cells #[.int .i64 t237, .int .i64 t238] 25 (0, 0)) (kf1 BK240.out NB240_258.out) hb); have n2_ := Aside0.mk (blk_below (g := gb244) (o := .cells #[.int .i64 t241, .int .i64 t242] 25 (0, 0)) (kf1 BK244.out NB244_258.out) hb); have n3_ := Aside0.mk (blk_below (g := gb249) (o := .cells #[.int .i64 t246, .int .i64 t247] 25 (0, 0)) (kf1 BK249.out NB249_258.out) hb); have n4_ := Aside0.mk (blk_below (g := gb253) (o := .cells #[.int .i64 t250, .int .i64 t251] 25 (0, 0)) (kf1 BK253.out NB253_258.out) hb); have n5_ := Aside0.mk (blk_below (g := gb258) (o := .cells #[.int .i64 t255, .int .i64 t256] 25 (0, 0)) (by (with_reducible repeat (first | refine blk_drewN ?_ _ | refine blk_drew ?_ | refine blk_alloc ?_ _)); refine blk_put (cs := #[.int .i64 t255, .int .i64 0]) ?_ 1 _ rfl; (with_reducible repeat (first | refine blk_drewN ?_ _ | refine blk_drew ?_ | refine blk_alloc ?_ _)); refine blk_put (cs := #[.int .i64 0, .int .i64 0]) ?_ 0 _ rfl; (with_reducible repeat (first | refine blk_drewN ?_ _ | refine blk_drew ?_ | refine blk_alloc ?_ _)); exact BK258.out) hb); have n6_ := Aside0.mk (below_step (lb6 HB.out GE236.out GE240.out GE244.out GE249.out GE253.out GE258.out) hb); clear BK236; clear BK240; clear BK244; clear BK249; clear BK253; clear BK258; clear HB; have BK236 := n0_; have BK240 := n1_; have BK244 := n2_; have BK249 := n3_; have BK253 := n4_; have BK258 := n5_; have HB := n6_; clear n0_ n1_ n2_ n3_ n4_ n5_ n6_; (try clear hb); (try clear hb2); (try clear hk); (try clear hi); have hnb177 := NB249_258.out; have hnc177 := NB258_249.out; have hcz178_0 : w176.cell? ⟨gb249, 0, none⟩ = some (.int .i64 t246) := (blk_cell BK249.out 0).trans rfl; have hcz178_1 : w176.cell? ⟨gb249, 1, none⟩ = some (.int .i64 t247) := (blk_cell BK249.out 1).trans rfl; have hfz178_0 := blk_frozen BK249.out 0; have hfz178_1 := blk_frozen BK249.out 1; have hcz179_0 : w176.cell? ⟨gb240, 0, none⟩ = some (.int .i64 t237) := (blk_cell BK240.out 0).trans rfl; have hcz179_1 : w176.cell? ⟨gb240, 1, none⟩ = some (.int .i64 t238) := (blk_cell BK240.out 1).trans rfl; have hfz179_0 := blk_frozen BK240.out 0; have hfz179_1 := blk_frozen BK240.out 1; have hnb180 := NB258_236.out; have hnc180 := NB236_258.out; have hnb181 := NB258_244.out; have hnc181 := NB244_258.out; have hnb182 := NB258_253.out; have hnc182 := NB253_258.out; have hcz183_0 : w176.cell? ⟨gb258, 0, none⟩ = some (.int .i64 t255) := (blk_cell BK258.out 0).trans rfl; have hcz183_1 : w176.cell? ⟨gb258, 1, none⟩ = some (.int .i64 t256) := (blk_cell BK258.out 1).trans rfl; have hfz183_0 := blk_frozen BK258.out 0; have hfz183_1 := blk_frozen BK258.out 1; have hnb184 := NB236_244.out; have hnc184 := NB244_236.out; have hcz185_0 : w176.cell? ⟨gb236, 0, none⟩ = some (.int .i64 t233) := (blk_cell BK236.out 0).trans rfl; have hcz185_1 : w176.cell? ⟨gb236, 1, none⟩ = some (.int .i64 t234) := (blk_cell BK236.out 1).trans rfl; have hfz185_0 := blk_frozen BK236.out 0; have hfz185_1 := blk_frozen BK236.out 1))
           go_ret
           exact ⟨by first | rfl | (simp [errW_none, errW_some] <;> rfl) | (simp [*, errW_none, errW_some] <;> rfl), by repeat (first | (with_reducible first | exact HB.out | apply below_alloc | apply pw_below_drewN | apply below_drew1 | refine below_set ?_ GE236.out | refine below_set ?_ GE240.out | refine below_set ?_ GE244.out | refine below_set ?_ GE249.out | refine below_set ?_ GE253.out | refine below_set ?_ GE258.out) | exact HB.out)⟩
          ·
           replace c148 := Bool.eq_false_iff.mpr c148
           subst c148
           have H1 : (some false) = some r := by rw [if_neg (show ¬ (false = true) by decide)] at H; exact H
           clear H
           have H := H1
           clear H1
           exact absurd ((Option.some.inj H).trans hr) (by simp)
        ·
         rw [if_neg c40] at H
         have c40b0 : (t246 == t237 && (t247 == t238)) = false := by simpa using c40
         (try (have c40b1 : decide (t246 = t237 && (t247 == t238)) = false := by simpa using c40))
         (try (have c40b2 : (t246 == t237 && (t247 == t238)) = false := by simpa using c40))
         (try (have c40b3 : ¬ (t246 = t237 && (t247 == t238)) := by simpa using c40))
         clear c40
         exact absurd ((Option.some.inj H).trans hr) (by simp)
       ·
        replace c39 := Bool.eq_false_iff.mpr c39
        subst c39
        have H1 : (some false) = some r := by rw [if_neg (show ¬ (false = true) by decide)] at H; exact H
        clear H
        have H := H1
        clear H1
        exact absurd ((Option.some.inj H).trans hr) (by simp)
      ·
       replace c38 := Bool.eq_false_iff.mpr c38
       subst c38
       have H1 : (some false) = some r := by rw [if_neg (show ¬ (false = true) by decide)] at H; exact H
       clear H
       have H := H1
       clear H1
       exact absurd ((Option.some.inj H).trans hr) (by simp)
     ·
      replace c32 := Bool.eq_false_iff.mpr c32
      subst c32
      have H1 : (if (t237 == 0 && (t238 == 0)) = true then ((laws_alive.f kj5).bind fun t245 => (some t245)) else (some false)) = some r := by rw [if_neg (show ¬ (false = true) by decide)] at H; exact H
      clear H
      have H := H1
      clear H1
      by_cases c304 : (t237 == 0 && (t238 == 0)) = true
      ·
       rw [if_pos c304] at H
       have c304b0 : (t237 == 0 && (t238 == 0)) = true := c304
       (try (have c304b1 : decide (t237 = 0 && (t238 == 0)) = true := by simpa using c304))
       (try (have c304b2 : (t237 == 0 && (t238 == 0)) = true := by simpa using c304))
       clear c304
       replace H := Option.bind_eq_some_iff.mp H
       obtain ⟨t245, A3050, H⟩ := H
       replace H : (some t245) = some r := H
       have A305 := Aside0.mk A3050
       clear A3050
       obtain rfl := Option.some.inj H
       have hnb306 := NB240_236.out
       have hnc306 := NB236_240.out
       have hnb307 := NB240_244.out
       have hnc307 := NB244_240.out
       have hcz308_0 : wc.cell? ⟨gb240, 0, none⟩ = some (.int .i64 t237) := (blk_cell BK240.out 0).trans rfl
       have hcz308_1 : wc.cell? ⟨gb240, 1, none⟩ = some (.int .i64 t238) := (blk_cell BK240.out 1).trans rfl
       have hfz308_0 := blk_frozen BK240.out 0
       have hfz308_1 := blk_frozen BK240.out 1
       go_wp2_with (first | (go_at_call 27; (with_reducible refine (laws_alive.calls kj5  t245 _ A305.out).mono ?_); rintro e w309 ⟨rfl, hb⟩; have n0_ := Aside0.mk (blk_below (g := gb236) (o := .cells #[.int .i64 t233, .int .i64 t234] 25 (0, 0)) (kb BK236.out) hb); have n1_ := Aside0.mk (blk_below (g := gb240) (o := .cells #[.int .i64 t237, .int .i64 t238] 25 (0, 0)) (kb BK240.out) hb); have n2_ := Aside0.mk (blk_below (g := gb244) (o := .cells #[.int .i64 t241, .int .i64 t242] 25 (0, 0)) (kb BK244.out) hb); have n3_ := Aside0.mk (below_step (lb3 HB.out GE236.out GE240.out GE244.out) hb); clear BK236; clear BK240; clear BK244; clear HB; have BK236 := n0_; have BK240 := n1_; have BK244 := n2_; have HB := n3_; clear n0_ n1_ n2_ n3_; (try clear hb); (try clear hb2); (try clear hk); (try clear hi)))
       go_ret
       exact ⟨by first | rfl | (simp [errW_none, errW_some] <;> rfl) | (simp [*, errW_none, errW_some] <;> rfl), by repeat (first | (with_reducible first | exact HB.out | apply below_alloc | apply pw_below_drewN | apply below_drew1 | refine below_set ?_ GE236.out | refine below_set ?_ GE240.out | refine below_set ?_ GE244.out) | exact HB.out)⟩
      ·
       rw [if_neg c304] at H
       have c304b0 : (t237 == 0 && (t238 == 0)) = false := by simpa using c304
       (try (have c304b1 : decide (t237 = 0 && (t238 == 0)) = false := by simpa using c304))
       (try (have c304b2 : (t237 == 0 && (t238 == 0)) = false := by simpa using c304))
       (try (have c304b3 : ¬ (t237 = 0 && (t238 == 0)) := by simpa using c304))
       clear c304
       exact absurd ((Option.some.inj H).trans hr) (by simp)

/-- THE ONE PURE STATEMENT of laws_FnDancedFrom: yours. -/
def laws_FnDancedFrom.Pure : Prop := ∀ (l0 : List Int), l0.length ≤ maxLen → l0.length * 1 ≤ 140737488351232 → (∀ x ∈ l0, (Lit.int .u8 x).wf = true) → ∃ k, laws_FnDancedFrom.f k l0 = some true
theorem laws_FnDancedFrom.walk (P : laws_FnDancedFrom.Pure) (a0 : Option Addr) (len0 cap0 : Nat) (z0 : List Int) (w : World) (w0 : (a0 = none ∧ len0 = 0 ∧ cap0 = 0 ∧ z0 = []) ∨ ∃ x, a0 = some x ∧ len0 ≤ cap0 ∧ cap0 ≤ maxLen ∧ z0.length = cap0 ∧ (∀ i, i < z0.length → w.cell? (x.add i) = some (.int .u8 (z0.getD i 0))) ∧ ∀ n ∈ z0, (Lit.int .u8 n).wf = true) (y0 : len0 * 1 ≤ 140737488351232) :
  Calls Tryd.prog 11 #[.slice a0 len0 cap0] w fun e w' => e = .returned (.bool true) ∧ Below w.heap.size w w' := by
 obtain ⟨l0, rfl, hr0, hm0, hw0, hc0⟩ := ReadsInt.ofRowC w0
 obtain ⟨k, h⟩ := P l0 hm0 y0 hw0
 refine (laws_FnDancedFrom.calls k _ _ l0 true rfl w (Kd.C_of_reads (d := (0 : Int)) (h1 := fun _ => rfl) hr0) hc0 h).mono ?_
 rintro e w' ⟨rfl, hd⟩
 exact ⟨rfl, hd⟩

end Go.Proofs.YtcahmfhlmclgkaaDoor.PFnDancedFrom

