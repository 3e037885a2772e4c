/- The walk of the law FnLongFrom on the ways on which it answers true (lines that the kit's print wrote, the other ways struck). -/
/- Walks of functions that the law reaches (lines that the kit's print wrote, over contracts of this session's own). -/
import Derived.Test.YtcahmfhlmclgkaaDoorPFnLongFromx0
import Derived.Test.YtcahmfhlmclgkaaDoorPFnLongFromx1
import Derived.Test.YtcahmfhlmclgkaaDoorPFnLongFromx2
import Derived.Test.YtcahmfhlmclgkaaDoorPFnLongFromx3
import Derived.Test.YtcahmfhlmclgkaaDoorPFnLongFromx4
import Derived.Test.YtcahmfhlmclgkaaDoorPFnLongFromx5
import Derived.Test.YtcahmfhlmclgkaaDoorPFnLongFromx6
namespace Go.Proofs.YtcahmfhlmclgkaaDoor.PFnLongFrom
open Go.RowKit Go.Proofs.YtcahmfhlmclgkaaDoorW.PrintWords Go.Proofs.YtcahmfhlmclgkaaDoorW.PrintLast Go.Proofs.YtcahmfhlmclgkaaDoorW.PrintMore
attribute [local go_sem] max2_int min2_int max_two min_two max_three min_three max_four min_four   -- for this text's walks alone
set_option linter.unusedVariables false
set_option linter.unusedSimpArgs false
theorem kb {Q P : Prop} (q : Q) (h : Q → P := by intro q_; (with_reducible repeat (first | refine blk_drewN ?_ _ | refine blk_drew ?_ | refine blk_alloc ?_ _)); exact q_) : P := h q
theorem kf1 {Q P : Prop} {N0 : Prop} (q : Q) (n0 : N0) (h : Q → N0 → P := by intro q_ m0_; (with_reducible repeat (first | refine blk_drewN ?_ _ | refine blk_drew ?_ | refine blk_alloc ?_ _ | refine blk_far ?_ m0_ _)); exact q_) : P := h q n0
theorem lb0 {Q P : Prop} (q : Q)  (h : Q → P := by intro q_ ; repeat (first | (with_reducible first | exact q_ | apply below_alloc | apply pw_below_drewN | apply below_drew1) | exact q_)) : P := h q 
theorem lb1 {Q P : Prop} {N0 : Prop} (q : Q) (n0 : N0) (h : Q → N0 → P := by intro q_ m0_; repeat (first | (with_reducible first | exact q_ | apply below_alloc | apply pw_below_drewN | apply below_drew1 | refine below_set ?_ m0_) | exact q_)) : P := h q n0
theorem lb2 {Q P : Prop} {N0 N1 : Prop} (q : Q) (n0 : N0) (n1 : N1) (h : Q → N0 → N1 → P := by intro q_ m0_ m1_; repeat (first | (with_reducible first | exact q_ | apply below_alloc | apply pw_below_drewN | apply below_drew1 | refine below_set ?_ m0_ | refine below_set ?_ m1_) | exact q_)) : P := h q n0 n1
theorem lb3 {Q P : Prop} {N0 N1 N2 : Prop} (q : Q) (n0 : N0) (n1 : N1) (n2 : N2) (h : Q → N0 → N1 → N2 → P := by intro q_ m0_ m1_ m2_; repeat (first | (with_reducible first | exact q_ | apply below_alloc | apply pw_below_drewN | apply below_drew1 | refine below_set ?_ m0_ | refine below_set ?_ m1_ | refine below_set ?_ m2_) | exact q_)) : P := h q n0 n1 n2
theorem lb4 {Q P : Prop} {N0 N1 N2 N3 : Prop} (q : Q) (n0 : N0) (n1 : N1) (n2 : N2) (n3 : N3) (h : Q → N0 → N1 → N2 → N3 → P := by intro q_ m0_ m1_ m2_ m3_; repeat (first | (with_reducible first | exact q_ | apply below_alloc | apply pw_below_drewN | apply below_drew1 | refine below_set ?_ m0_ | refine below_set ?_ m1_ | refine below_set ?_ m2_ | refine below_set ?_ m3_) | exact q_)) : P := h q n0 n1 n2 n3
theorem lb5 {Q P : Prop} {N0 N1 N2 N3 N4 : Prop} (q : Q) (n0 : N0) (n1 : N1) (n2 : N2) (n3 : N3) (n4 : N4) (h : Q → N0 → N1 → N2 → N3 → N4 → P := by intro q_ m0_ m1_ m2_ m3_ m4_; repeat (first | (with_reducible first | exact q_ | apply below_alloc | apply pw_below_drewN | apply below_drew1 | refine below_set ?_ m0_ | refine below_set ?_ m1_ | refine below_set ?_ m2_ | refine below_set ?_ m3_ | refine below_set ?_ m4_) | exact q_)) : P := h q n0 n1 n2 n3 n4
theorem eqA25 (d : Nat) (w : World) (x0 y0 : Int) (x1 y1 : Int) :
    (Op.equalIn (d + 2) 25 (.agg #[.int .i64 x0, .int .i64 x1]) (.agg #[.int .i64 y0, .int .i64 y1])).run Tryd.prog w = .ok (x0 == y0 && (x1 == y1)) w := by
  refine eqA_of Tryd.underlying25 (by kernel_rfl) ?_
  refine eqf_cons (by rfl) (by go_simp; rfl) (by go_simp; rfl) (by go_simp) ?_
  exact eqf_last (by rfl) (by go_simp; rfl) (by go_simp; rfl) (by go_simp)

attribute [local go_sem high] eqA25
/-! ### laws_FnLongFrom: function 12 -/
def laws_FnLongFrom.j0 : Nat → ByteArray → Bool → Bool → Int → Int → Int → Int → Option (Bool)
  | 0, _, _, _, _, _, _, _ => none
  | k + 1, x4, x6, x43, x277000, x277001, x281000, x281001 => if x43 = true then (some false) else (if x6 = true then (if 0 ≤ (wrap64 ((x4.size : Int) / 2)) then (if (wrap64 ((x4.size : Int) / 2)) ≤ (x4.size : Int) then ((impl_LongFrom.f k x277000 x277001 (x4.extract 0 ((wrap64 ((x4.size : Int) / 2)) : Int).toNat)).bind fun bt285 => ((impl_LongFrom.f k bt285.1 bt285.2.1 (x4.extract ((wrap64 ((x4.size : Int) / 2)) : Int).toNat x4.size)).bind fun bt289 => ((impl_DancedFrom.f k x277000 x277001 x4).bind fun bt293 => (if bt285.2.2 = true then (if bt289.2.2 = true then (if (bt289.1 == x281000 && (bt289.2.1 == x281001)) = true then (if (x4.size : Int) > 40 then (some true) else (if bt293.2.2 = true then (some (bt293.1 == x281000 && (bt293.2.1 == x281001))) else (some false))) else (some false)) else (if (x4.size : Int) > 40 then (some true) else (if bt293.2.2 = true then (some (bt293.1 == x281000 && (bt293.2.1 == x281001))) else (some false)))) else (some false))))) else (none)) else (none)) else (if (x281000 == 0 && (x281001 == 0)) = true then ((laws_alive.f k).bind fun t297 => (some t297)) else (some false)))
def laws_FnLongFrom.f (k : Nat) (l0 : List Int) : Option (Bool) := if (l0.length : Int) > 1048576 then (some true) else ((spec_DrawLongFrom.f k l0).bind fun bt273 => ((impl_LongFrom.f k bt273.1 bt273.2.1 bt273.2.2).bind fun bt277 => ((spec_LongFrom.f k bt273.1 bt273.2.1 bt273.2.2).bind fun bt281 => (if (!(bt277.1 == bt281.1) || (!(bt277.2.1 == bt281.2.1))) = true then (laws_FnLongFrom.j0 k bt273.2.2 bt277.2.2 true bt273.1 bt273.2.1 bt277.1 bt277.2.1) else (laws_FnLongFrom.j0 k bt273.2.2 bt277.2.2 (bt277.2.2 != bt281.2.2) bt273.1 bt273.2.1 bt277.1 bt277.2.1)))))
theorem laws_FnLongFrom.mono_l : ∀ k, (∀ y0 y1 y2 y3 y4 y5 y6, LeO (laws_FnLongFrom.j0 k y0 y1 y2 y3 y4 y5 y6) (laws_FnLongFrom.j0 (k + 1) y0 y1 y2 y3 y4 y5 y6))
  | 0 => fun _ _ _ _ _ _ _ r h => by simp [laws_FnLongFrom.j0] at h
  | k + 1 => by
    have ih0 := laws_FnLongFrom.mono_l k
    · intro y0 y1 y2 y3 y4 y5 y6
      unfold laws_FnLongFrom.j0
      repeat' first
      | (with_reducible exact ih0 _ _ _ _ _ _ _)
      | (with_reducible exact impl_DancedFrom.mono _ _ _ _)
      | (with_reducible exact impl_LongFrom.mono _ _ _ _)
      | (with_reducible exact laws_alive.mono _)
      | (with_reducible exact spec_DrawLongFrom.mono _ _)
      | (with_reducible exact spec_LongFrom.mono _ _ _ _)
      | (with_reducible exact LeO.refl _)
      | (with_reducible exact LeO.none _)
      | (with_reducible refine LeO.ite ?_ ?_)
      | (with_reducible refine LeO.bind ?_ (fun _ => ?_))
      | exact ih0 _ _ _ _ _ _ _
      | exact impl_DancedFrom.mono _ _ _ _
      | exact impl_LongFrom.mono _ _ _ _
      | exact laws_alive.mono _
      | exact spec_DrawLongFrom.mono _ _
      | exact spec_LongFrom.mono _ _ _ _
      | exact LeO.none _
      | refine LeO.ite ?_ ?_
      | refine LeO.bind ?_ (fun _ => ?_)
theorem laws_FnLongFrom.mono : ∀ a0 k, LeO (laws_FnLongFrom.f k a0) (laws_FnLongFrom.f (k + 1) a0) := by
  intro a0 k
  have ih0 := laws_FnLongFrom.mono_l k
  unfold laws_FnLongFrom.f
  repeat' first
      | (with_reducible exact ih0 _ _ _ _ _ _ _)
      | (with_reducible exact impl_DancedFrom.mono _ _ _ _)
      | (with_reducible exact impl_LongFrom.mono _ _ _ _)
      | (with_reducible exact laws_alive.mono _)
      | (with_reducible exact spec_DrawLongFrom.mono _ _)
      | (with_reducible exact spec_LongFrom.mono _ _ _ _)
      | (with_reducible exact LeO.refl _)
      | (with_reducible exact LeO.none _)
      | (with_reducible refine LeO.ite ?_ ?_)
      | (with_reducible refine LeO.bind ?_ (fun _ => ?_))
      | exact ih0 _ _ _ _ _ _ _
      | exact impl_DancedFrom.mono _ _ _ _
      | exact impl_LongFrom.mono _ _ _ _
      | exact laws_alive.mono _
      | exact spec_DrawLongFrom.mono _ _
      | exact spec_LongFrom.mono _ _ _ _
      | exact LeO.none _
      | refine LeO.ite ?_ ?_
      | refine LeO.bind ?_ (fun _ => ?_)
def laws_FnLongFrom.T11 : Bool × List (List Nat × List Nat) := (true, [([], []), ([], []), ([], []), ([1, 2], [1, 2]), ([0, 3], [0, 3]), ([4], [4]), ([5], [5]), ([5], [5]), ([], []), ([8, 6, 4, 0, 1, 2, 3, 4, 5, 6, 8], [6, 8]), ([7, 9, 0, 1, 2, 3, 4, 5, 6, 7, 8, 9], [7])])
def laws_FnLongFrom.B11 : List Nat := [0, 0, 0, 6, 15, 31, 63, 63, 0, 383, 1023]
theorem laws_FnLongFrom.tab11 : rtab .any (opsOf Tryd.f12 11) = laws_FnLongFrom.T11 := by kernel_rfl
theorem laws_FnLongFrom.bits11 : waitsOk laws_FnLongFrom.T11.2 laws_FnLongFrom.B11 = true := by kernel_rfl
def laws_FnLongFrom.T12 : Bool × List (List Nat × List Nat) := (true, [([], []), ([], []), ([], []), ([1, 2], [1, 2]), ([0, 3], [0, 3]), ([4], [4]), ([5], [5]), ([5], [5]), ([], []), ([8, 6, 4, 0, 1, 2, 3, 4, 5, 6, 8], [6, 8]), ([7, 9, 0, 1, 2, 3, 4, 5, 6, 7, 8, 9], [7])])
def laws_FnLongFrom.B12 : List Nat := [0, 0, 0, 6, 15, 31, 63, 63, 0, 383, 1023]
theorem laws_FnLongFrom.tab12 : rtab .any (opsOf Tryd.f12 12) = laws_FnLongFrom.T12 := by kernel_rfl
theorem laws_FnLongFrom.bits12 : waitsOk laws_FnLongFrom.T12.2 laws_FnLongFrom.B12 = true := by kernel_rfl
set_option maxHeartbeats 8000000 in
set_option maxRecDepth 100000 in
theorem laws_FnLongFrom.calls (k : Nat) (A0 : Option Addr) (c0 : Nat) (l0 : List Int) (r : Bool) (hr : r = true) (w : World) (hr0 : Kd.C (Kd.int .u8) w A0 l0.length l0) (hc0 : l0.length ≤ c0) (h : laws_FnLongFrom.f k l0 = some r) :
  Calls Tryd.prog 12 #[.slice A0 l0.length c0] w fun e w' => e = .returned (.bool r) ∧ Below w.heap.size w w' := by
 have hu25 := Tryd.underlying25
 have HR0 := Aside0.mk hr0
 have HC0 := Aside0.mk hc0
 clear hr0 hc0
 have HB := Aside0.mk (Below.refl w.heap.size w)
 have H : (if (l0.length : Int) > 1048576 then (some true) else ((spec_DrawLongFrom.f k l0).bind fun bt273 => ((impl_LongFrom.f k bt273.1 bt273.2.1 bt273.2.2).bind fun bt277 => ((spec_LongFrom.f k bt273.1 bt273.2.1 bt273.2.2).bind fun bt281 => (if (!(bt277.1 == bt281.1) || (!(bt277.2.1 == bt281.2.1))) = true then (laws_FnLongFrom.j0 k bt273.2.2 bt277.2.2 true bt273.1 bt273.2.1 bt277.1 bt277.2.1) else (laws_FnLongFrom.j0 k bt273.2.2 bt277.2.2 (bt277.2.2 != bt281.2.2) bt273.1 bt273.2.1 bt277.1 bt277.2.1)))))) = some r := h
 clear h
 by_cases c2 : (l0.length : Int) > 1048576
 ·
  rw [if_pos c2] at H
  have c2b0 : decide (1048576 < (l0.length : Int)) = true := decide_eq_true c2
  have c2b1 : decide (1048576 < l0.length) = true := decide_eq_true (by omega)
  clear c2
  obtain rfl := Option.some.inj H
  go_enter Tryd.func12, Tryd.ntmps12
  go_wp2
  go_ret
  exact ⟨by first | rfl | (simp [errW_none, errW_some] <;> rfl) | (simp [*, errW_none, errW_some] <;> rfl), by repeat (first | (with_reducible first | exact HB.out | apply below_alloc | apply pw_below_drewN | apply below_drew1) | exact HB.out)⟩
 ·
  rw [if_neg c2] at H
  have c2b0 : decide (1048576 < (l0.length : Int)) = false := decide_eq_false c2
  have c2b1 : decide (1048576 < l0.length) = false := decide_eq_false (by omega)
  clear c2
  replace H := Option.bind_eq_some_iff.mp H
  obtain ⟨⟨t273, t274, t275⟩, A30, H⟩ := H
  replace H : ((impl_LongFrom.f k t273 t274 t275).bind fun bt277 => ((spec_LongFrom.f k t273 t274 t275).bind fun bt281 => (if (!(bt277.1 == bt281.1) || (!(bt277.2.1 == bt281.2.1))) = true then (laws_FnLongFrom.j0 k t275 bt277.2.2 true t273 t274 bt277.1 bt277.2.1) else (laws_FnLongFrom.j0 k t275 bt277.2.2 (bt277.2.2 != bt281.2.2) t273 t274 bt277.1 bt277.2.1)))) = some r := H
  have A3 := Aside0.mk A30
  clear A30
  replace H := Option.bind_eq_some_iff.mp H
  obtain ⟨⟨t277, t278, t279⟩, A40, H⟩ := H
  replace H : ((spec_LongFrom.f k t273 t274 t275).bind fun bt281 => (if (!(t277 == bt281.1) || (!(t278 == bt281.2.1))) = true then (laws_FnLongFrom.j0 k t275 t279 true t273 t274 t277 t278) else (laws_FnLongFrom.j0 k t275 t279 (t279 != bt281.2.2) t273 t274 t277 t278))) = some r := H
  have A4 := Aside0.mk A40
  clear A40
  replace H := Option.bind_eq_some_iff.mp H
  obtain ⟨⟨t281, t282, t283⟩, A50, H⟩ := H
  replace H : (if (!(t277 == t281) || (!(t278 == t282))) = true then (laws_FnLongFrom.j0 k t275 t279 true t273 t274 t277 t278) else (laws_FnLongFrom.j0 k t275 t279 (t279 != t283) t273 t274 t277 t278)) = some r := H
  have A5 := Aside0.mk A50
  clear A50
  have HC6 := Aside0.mk H
  clear H
  go_enter Tryd.func12, Tryd.ntmps12
  go_upto_region 6 with (first | ((with_reducible refine gate_callee (f := 46) rfl ?_); refine goesL_ (some 21) rfl rfl Tryd.func46 (by kernel_rfl) rfl #[.slice A0 l0.length c0] rfl (by (try simp only [List.map_toArray, List.map_cons, List.map_nil]); first | done | rfl | (simp only [List.length_drop, List.length_take]; rfl)) ?_; (with_reducible refine (spec_DrawLongFrom.calls k _ _ l0 t273 t274 t275 _ ?side1 ?side2 A3.out).mono ?_); (case side1 => repeat (first | exact HR0.out | (with_reducible refine Kd.C_alloc ?_ _) | (with_reducible refine Kd.C_drewN ?_ _) | (with_reducible refine Kd.C_drew ?_))); (case side2 => exact HC0.out); rintro e w7 ⟨rfl, hb⟩; refine ⟨_, rfl, ?_⟩; have n0_ := Aside0.mk (below_step (lb0 HB.out) hb); clear HB; have HB := n0_; clear n0_; (try clear hb); (try clear hb2); (try clear hk); (try clear hi)) | ((with_reducible refine gate_dst (N := 3) rfl ?_); (try (refine gate_guard (by rfl) ?_; dsimp only)); refine box_event ?hg (N := 3) ?hd (cs := #[.int .i64 0, .int .i64 0]) (t := 25) ?hr ?_; (case hd => rfl); (case hg => rfl); (case hr => first | (go_simp; done) | (go_simp; rfl)); intro gb276 hg w8 hbox hb; have n0_ := Aside0.mk (below_step (lb0 HB.out) hb); have n1_ := Aside0.mk (hbox); have n2_ := Aside0.mk ((by rw [hg]; exact (below_size (lb0 HB.out)) : w.heap.size ≤ gb276)); have n3_ := Aside0.mk ((by rw [hg]; exact (below_size (lb0 HB.out)) : w.heap.size ≤ gb276)); clear HB; have HB := n0_; have BK276 := n1_; have GW276 := n2_; have GE276 := n3_; clear n0_ n1_ n2_ n3_; clear hb hbox hg; have hcz9_0 : w8.cell? ⟨gb276, 0, none⟩ = some (.int .i64 0) := (blk_cell BK276.out 0).trans rfl; have hcz9_1 : w8.cell? ⟨gb276, 1, none⟩ = some (.int .i64 0) := (blk_cell BK276.out 1).trans rfl; have hfz9_0 := blk_frozen BK276.out 0; have hfz9_1 := blk_frozen BK276.out 1) | ((with_reducible refine gate_callee (f := 22) rfl ?_); refine goesL_ (some 27) rfl rfl Tryd.func22 (by kernel_rfl) rfl #[.agg #[.int .i64 t273, .int .i64 t274], .string t275] rfl (by (try simp only [List.map_toArray, List.map_cons, List.map_nil]); first | done | rfl | (simp only [List.length_drop, List.length_take]; rfl)) ?_; (with_reducible refine (impl_LongFrom.calls k t273 t274 t275 t277 t278 t279 _ A4.out).mono ?_); rintro e w10 ⟨rfl, hb⟩; refine ⟨_, rfl, ?_⟩; have n0_ := Aside0.mk (blk_below (g := gb276) (o := .cells #[.int .i64 t273, .int .i64 t274] 25 (0, 0)) (by (with_reducible repeat (first | refine blk_drewN ?_ _ | refine blk_drew ?_ | refine blk_alloc ?_ _)); refine blk_put (cs := #[.int .i64 t273, .int .i64 0]) ?_ 1 _ rfl; (with_reducible repeat (first | refine blk_drewN ?_ _ | refine blk_drew ?_ | refine blk_alloc ?_ _)); refine blk_put (cs := #[.int .i64 0, .int .i64 0]) ?_ 0 _ rfl; (with_reducible repeat (first | refine blk_drewN ?_ _ | refine blk_drew ?_ | refine blk_alloc ?_ _)); exact BK276.out) hb); have n1_ := Aside0.mk (below_step (lb1 HB.out GE276.out) hb); clear BK276; clear HB; have BK276 := n0_; have HB := n1_; clear n0_ n1_; (try clear hb); (try clear hb2); (try clear hk); (try clear hi)) | ((with_reducible refine gate_dst (N := 5) rfl ?_); (try (refine gate_guard (by rfl) ?_; dsimp only)); refine box_event ?hg (N := 5) ?hd (cs := #[.int .i64 0, .int .i64 0]) (t := 25) ?hr ?_; (case hd => rfl); (case hg => rfl); (case hr => first | (go_simp; done) | (go_simp; rfl)); intro gb280 hg w11 hbox hb; have n0_ := Aside0.mk (blk_below (g := gb276) (o := .cells #[.int .i64 t273, .int .i64 t274] 25 (0, 0)) (kb BK276.out) hb); have n1_ := Aside0.mk (below_step (lb1 HB.out GE276.out) hb); have n2_ := Aside0.mk (hbox); have n3_ := Aside0.mk ((by rw [hg]; exact (below_size (lb1 HB.out GE276.out)) : w.heap.size ≤ gb280)); have n4_ := Aside0.mk ((by rw [hg]; exact (below_size (lb1 HB.out GE276.out)) : w.heap.size ≤ gb280)); have n5_ := Aside0.mk ((by rw [hg]; exact Nat.ne_of_lt (blk_lt (g := gb276) (o := .cells #[.int .i64 t273, .int .i64 t274] 25 (0, 0)) (kb BK276.out)) : gb276 ≠ gb280)); have n6_ := Aside0.mk ((by rw [hg]; exact Nat.ne_of_gt (blk_lt (g := gb276) (o := .cells #[.int .i64 t273, .int .i64 t274] 25 (0, 0)) (kb BK276.out)) : gb280 ≠ gb276)); clear BK276; clear HB; have BK276 := n0_; have HB := n1_; have BK280 := n2_; have GW280 := n3_; have GE280 := n4_; have NB276_280 := n5_; have NB280_276 := n6_; clear n0_ n1_ n2_ n3_ n4_ n5_ n6_; clear hb hbox hg; have hnb12 := NB280_276.out; have hnc12 := NB276_280.out; have hcz13_0 : w11.cell? ⟨gb280, 0, none⟩ = some (.int .i64 0) := (blk_cell BK280.out 0).trans rfl; have hcz13_1 : w11.cell? ⟨gb280, 1, none⟩ = some (.int .i64 0) := (blk_cell BK280.out 1).trans rfl; have hfz13_0 := blk_frozen BK280.out 0; have hfz13_1 := blk_frozen BK280.out 1; have hcz14_0 : w11.cell? ⟨gb276, 0, none⟩ = some (.int .i64 t273) := (blk_cell BK276.out 0).trans rfl; have hcz14_1 : w11.cell? ⟨gb276, 1, none⟩ = some (.int .i64 t274) := (blk_cell BK276.out 1).trans rfl; have hfz14_0 := blk_frozen BK276.out 0; have hfz14_1 := blk_frozen BK276.out 1) | ((with_reducible refine gate_callee (f := 21) rfl ?_); refine goesL_ (some 33) rfl rfl Tryd.func21 (by kernel_rfl) rfl #[.agg #[.int .i64 t273, .int .i64 t274], .string t275] rfl (by (try simp only [List.map_toArray, List.map_cons, List.map_nil]); first | done | rfl | (simp only [List.length_drop, List.length_take]; rfl)) ?_; (with_reducible refine (spec_LongFrom.calls k t273 t274 t275 t281 t282 t283 _ A5.out).mono ?_); rintro e w15 ⟨rfl, hb⟩; refine ⟨_, rfl, ?_⟩; have n0_ := Aside0.mk (blk_below (g := gb276) (o := .cells #[.int .i64 t273, .int .i64 t274] 25 (0, 0)) (kf1 BK276.out NB276_280.out) hb); have n1_ := Aside0.mk (blk_below (g := gb280) (o := .cells #[.int .i64 t277, .int .i64 t278] 25 (0, 0)) (by (with_reducible repeat (first | refine blk_drewN ?_ _ | refine blk_drew ?_ | refine blk_alloc ?_ _)); refine blk_put (cs := #[.int .i64 t277, .int .i64 0]) ?_ 1 _ rfl; (with_reducible repeat (first | refine blk_drewN ?_ _ | refine blk_drew ?_ | refine blk_alloc ?_ _)); refine blk_put (cs := #[.int .i64 0, .int .i64 0]) ?_ 0 _ rfl; (with_reducible repeat (first | refine blk_drewN ?_ _ | refine blk_drew ?_ | refine blk_alloc ?_ _)); exact BK280.out) hb); have n2_ := Aside0.mk (below_step (lb2 HB.out GE276.out GE280.out) hb); clear BK276; clear BK280; clear HB; have BK276 := n0_; have BK280 := n1_; have HB := n2_; clear n0_ n1_ n2_; (try clear hb); (try clear hb2); (try clear hk); (try clear hi)) | ((with_reducible refine gate_dst (N := 7) rfl ?_); (try (refine gate_guard (by rfl) ?_; dsimp only)); refine box_event ?hg (N := 7) ?hd (cs := #[.int .i64 0, .int .i64 0]) (t := 25) ?hr ?_; (case hd => rfl); (case hg => rfl); (case hr => first | (go_simp; done) | (go_simp; rfl)); intro gb284 hg w16 hbox hb; have n0_ := Aside0.mk (blk_below (g := gb276) (o := .cells #[.int .i64 t273, .int .i64 t274] 25 (0, 0)) (kb BK276.out) hb); have n1_ := Aside0.mk (blk_below (g := gb280) (o := .cells #[.int .i64 t277, .int .i64 t278] 25 (0, 0)) (kb BK280.out) hb); have n2_ := Aside0.mk (below_step (lb2 HB.out GE276.out GE280.out) hb); have n3_ := Aside0.mk (hbox); have n4_ := Aside0.mk ((by rw [hg]; exact (below_size (lb2 HB.out GE276.out GE280.out)) : w.heap.size ≤ gb284)); have n5_ := Aside0.mk ((by rw [hg]; exact (below_size (lb2 HB.out GE276.out GE280.out)) : w.heap.size ≤ gb284)); have n6_ := Aside0.mk ((by rw [hg]; exact Nat.ne_of_lt (blk_lt (g := gb276) (o := .cells #[.int .i64 t273, .int .i64 t274] 25 (0, 0)) (kb BK276.out)) : gb276 ≠ gb284)); have n7_ := Aside0.mk ((by rw [hg]; exact Nat.ne_of_gt (blk_lt (g := gb276) (o := .cells #[.int .i64 t273, .int .i64 t274] 25 (0, 0)) (kb BK276.out)) : gb284 ≠ gb276)); have n8_ := Aside0.mk ((by rw [hg]; exact Nat.ne_of_lt (blk_lt (g := gb280) (o := .cells #[.int .i64 t277, .int .i64 t278] 25 (0, 0)) (kb BK280.out)) : gb280 ≠ gb284)); have n9_ := Aside0.mk ((by rw [hg]; exact Nat.ne_of_gt (blk_lt (g := gb280) (o := .cells #[.int .i64 t277, .int .i64 t278] 25 (0, 0)) (kb BK280.out)) : gb284 ≠ gb280)); clear BK276; clear BK280; clear HB; have BK276 := n0_; have BK280 := n1_; have HB := n2_; have BK284 := n3_; have GW284 := n4_; have GE284 := n5_; have NB276_284 := n6_; have NB284_276 := n7_; have NB280_284 := n8_; have NB284_280 := n9_; clear n0_ n1_ n2_ n3_ n4_ n5_ n6_ n7_ n8_ n9_; clear hb hbox hg; have hnb17 := NB284_276.out; have hnc17 := NB276_284.out; have hnb18 := NB284_280.out; have hnc18 := NB280_284.out; have hcz19_0 : w16.cell? ⟨gb284, 0, none⟩ = some (.int .i64 0) := (blk_cell BK284.out 0).trans rfl; have hcz19_1 : w16.cell? ⟨gb284, 1, none⟩ = some (.int .i64 0) := (blk_cell BK284.out 1).trans rfl; have hfz19_0 := blk_frozen BK284.out 0; have hfz19_1 := blk_frozen BK284.out 1))
  (try simp only [Act.put, List.setIfInBounds_toArray, List.set_cons_zero, List.set_cons_succ])
  go_cut [43] (fun v43 wc => ∃ (kq : Nat) (x43_5 : Bool), v43 = .bool x43_5 ∧ Aside0 (laws_FnLongFrom.j0 kq t275 t279 x43_5 t273 t274 t277 t278 = some r) ∧ Aside0 (kq ≤ k) ∧ Aside0 (wc.heap[gb276]? = some (.cells #[.int .i64 t273, .int .i64 t274] 25 (0, 0))) ∧ Aside0 (wc.heap[gb280]? = some (.cells #[.int .i64 t277, .int .i64 t278] 25 (0, 0))) ∧ Aside0 (wc.heap[gb284]? = some (.cells #[.int .i64 t281, .int .i64 t282] 25 (0, 0))) ∧ Aside0 (Below w.heap.size w wc))
  case first =>
   have H := HC6.out
   clear HC6
   by_cases c20 : (!(t277 == t281) || (!(t278 == t282))) = true
   ·
    rw [if_pos c20] at H
    have c20b0 : (!(t277 == t281) || (!(t278 == t282))) = true := c20
    clear c20
    (first | rw [c20b0] | (simp only [i64_w, i32_w]; rw [c20b0]) | skip)
    have H' := Aside0.mk H
    clear H
    have hnb21 := NB280_276.out
    have hnc21 := NB276_280.out
    have hnb22 := NB280_284.out
    have hnc22 := NB284_280.out
    have hcz23_0 : w16.cell? ⟨gb280, 0, none⟩ = some (.int .i64 t277) := (blk_cell BK280.out 0).trans rfl
    have hcz23_1 : w16.cell? ⟨gb280, 1, none⟩ = some (.int .i64 t278) := (blk_cell BK280.out 1).trans rfl
    have hfz23_0 := blk_frozen BK280.out 0
    have hfz23_1 := blk_frozen BK280.out 1
    have hnb24 := NB284_276.out
    have hnc24 := NB276_284.out
    have hcz25_0 : w16.cell? ⟨gb284, 0, none⟩ = some (.int .i64 0) := (blk_cell BK284.out 0).trans rfl
    have hcz25_1 : w16.cell? ⟨gb284, 1, none⟩ = some (.int .i64 0) := (blk_cell BK284.out 1).trans rfl
    have hfz25_0 := blk_frozen BK284.out 0
    have hfz25_1 := blk_frozen BK284.out 1
    go_wp2
    go_meet
    case rel => exact ⟨_, (true), (by first | rfl | (simp; done) | (simp [*]; done)), H', ⟨by first | omega | exact Nat.le_refl _⟩, ⟨kf1 BK276.out NB276_284.out⟩, ⟨kf1 BK280.out NB280_284.out⟩, ⟨by (with_reducible repeat (first | refine blk_drewN ?_ _ | refine blk_drew ?_ | refine blk_alloc ?_ _)); refine blk_put (cs := #[.int .i64 t281, .int .i64 0]) ?_ 1 _ rfl; (with_reducible repeat (first | refine blk_drewN ?_ _ | refine blk_drew ?_ | refine blk_alloc ?_ _)); refine blk_put (cs := #[.int .i64 0, .int .i64 0]) ?_ 0 _ rfl; (with_reducible repeat (first | refine blk_drewN ?_ _ | refine blk_drew ?_ | refine blk_alloc ?_ _)); exact BK284.out⟩, ⟨by repeat (first | (with_reducible first | exact HB.out | apply below_alloc | apply pw_below_drewN | apply below_drew1 | refine below_set ?_ GE276.out | refine below_set ?_ GE280.out | refine below_set ?_ GE284.out) | exact HB.out)⟩⟩
   ·
    rw [if_neg c20] at H
    have c20b0 : (!(t277 == t281) || (!(t278 == t282))) = false := by simpa using c20
    clear c20
    (first | rw [c20b0] | (simp only [i64_w, i32_w]; rw [c20b0]) | skip)
    have H' := Aside0.mk H
    clear H
    have hnb26 := NB280_276.out
    have hnc26 := NB276_280.out
    have hnb27 := NB280_284.out
    have hnc27 := NB284_280.out
    have hcz28_0 : w16.cell? ⟨gb280, 0, none⟩ = some (.int .i64 t277) := (blk_cell BK280.out 0).trans rfl
    have hcz28_1 : w16.cell? ⟨gb280, 1, none⟩ = some (.int .i64 t278) := (blk_cell BK280.out 1).trans rfl
    have hfz28_0 := blk_frozen BK280.out 0
    have hfz28_1 := blk_frozen BK280.out 1
    have hnb29 := NB284_276.out
    have hnc29 := NB276_284.out
    have hcz30_0 : w16.cell? ⟨gb284, 0, none⟩ = some (.int .i64 0) := (blk_cell BK284.out 0).trans rfl
    have hcz30_1 : w16.cell? ⟨gb284, 1, none⟩ = some (.int .i64 0) := (blk_cell BK284.out 1).trans rfl
    have hfz30_0 := blk_frozen BK284.out 0
    have hfz30_1 := blk_frozen BK284.out 1
    go_wp2
    go_meet
    case rel => exact ⟨_, ((t279 != t283)), (by first | rfl | (simp; done) | (simp [*]; done)), H', ⟨by first | omega | exact Nat.le_refl _⟩, ⟨kf1 BK276.out NB276_284.out⟩, ⟨kf1 BK280.out NB280_284.out⟩, ⟨by (with_reducible repeat (first | refine blk_drewN ?_ _ | refine blk_drew ?_ | refine blk_alloc ?_ _)); refine blk_put (cs := #[.int .i64 t281, .int .i64 0]) ?_ 1 _ rfl; (with_reducible repeat (first | refine blk_drewN ?_ _ | refine blk_drew ?_ | refine blk_alloc ?_ _)); refine blk_put (cs := #[.int .i64 0, .int .i64 0]) ?_ 0 _ rfl; (with_reducible repeat (first | refine blk_drewN ?_ _ | refine blk_drew ?_ | refine blk_alloc ?_ _)); exact BK284.out⟩, ⟨by repeat (first | (with_reducible first | exact HB.out | apply below_alloc | apply pw_below_drewN | apply below_drew1 | refine below_set ?_ GE276.out | refine below_set ?_ GE280.out | refine below_set ?_ GE284.out) | exact HB.out)⟩⟩
  case rest =>
   clear HC6
   try clear c1
   try clear c2
   try clear c2b0
   try clear c2b1
   try clear p2
   try clear c4
   try clear c12
   try clear c17
   try clear c18
   try clear c20
   try clear c20b0
   try clear c21
   try clear c22
   try clear c24
   try clear c26
   try clear c27
   try clear c29
   try clear hcz13_0
   try clear hcz13_1
   try clear hcz14_0
   try clear hcz14_1
   try clear hcz19_0
   try clear hcz19_1
   try clear hcz23_0
   try clear hcz23_1
   try clear hcz25_0
   try clear hcz25_1
   try clear hcz28_0
   try clear hcz28_1
   try clear hcz30_0
   try clear hcz30_1
   try clear hcz9_0
   try clear hcz9_1
   try clear hfz13_0
   try clear hfz13_1
   try clear hfz14_0
   try clear hfz14_1
   try clear hfz19_0
   try clear hfz19_1
   try clear hfz23_0
   try clear hfz23_1
   try clear hfz25_0
   try clear hfz25_1
   try clear hfz28_0
   try clear hfz28_1
   try clear hfz30_0
   try clear hfz30_1
   try clear hfz9_0
   try clear hfz9_1
   obtain ⟨kq, x43_5, rfl, HA, HJ5, BK276, BK280, BK284, HB⟩ := hcut
   cases kq with
   | zero => exact absurd HA.out (by simp [laws_FnLongFrom.j0])
   | succ kj5 =>
    have H := HA.out
    clear HA
    simp only [laws_FnLongFrom.j0] at H
    by_cases c31 : x43_5 = true
    ·
     subst c31
     have H1 : (some false) = some r := by rw [if_pos rfl] at H; exact H
     clear H
     have H := H1
     clear H1
     exact absurd ((Option.some.inj H).trans hr) (by simp)
    ·
     replace c31 := Bool.eq_false_iff.mpr c31
     subst c31
     have H1 : (if t279 = true then (if 0 ≤ (wrap64 ((t275.size : Int) / 2)) then (if (wrap64 ((t275.size : Int) / 2)) ≤ (t275.size : Int) then ((impl_LongFrom.f kj5 t273 t274 (t275.extract 0 ((wrap64 ((t275.size : Int) / 2)) : Int).toNat)).bind fun bt285 => ((impl_LongFrom.f kj5 bt285.1 bt285.2.1 (t275.extract ((wrap64 ((t275.size : Int) / 2)) : Int).toNat t275.size)).bind fun bt289 => ((impl_DancedFrom.f kj5 t273 t274 t275).bind fun bt293 => (if bt285.2.2 = true then (if bt289.2.2 = true then (if (bt289.1 == t277 && (bt289.2.1 == t278)) = true then (if (t275.size : Int) > 40 then (some true) else (if bt293.2.2 = true then (some (bt293.1 == t277 && (bt293.2.1 == t278))) else (some false))) else (some false)) else (if (t275.size : Int) > 40 then (some true) else (if bt293.2.2 = true then (some (bt293.1 == t277 && (bt293.2.1 == t278))) else (some false)))) else (some false))))) else (none)) else (none)) else (if (t277 == 0 && (t278 == 0)) = true then ((laws_alive.f kj5).bind fun t297 => (some t297)) else (some false))) = some r := by rw [if_neg (show ¬ (false = true) by decide)] at H; exact H
     clear H
     have H := H1
     clear H1
     by_cases c32 : t279 = true
     ·
      subst c32
      have H1 : (if 0 ≤ (wrap64 ((t275.size : Int) / 2)) then (if (wrap64 ((t275.size : Int) / 2)) ≤ (t275.size : Int) then ((impl_LongFrom.f kj5 t273 t274 (t275.extract 0 ((wrap64 ((t275.size : Int) / 2)) : Int).toNat)).bind fun bt285 => ((impl_LongFrom.f kj5 bt285.1 bt285.2.1 (t275.extract ((wrap64 ((t275.size : Int) / 2)) : Int).toNat t275.size)).bind fun bt289 => ((impl_DancedFrom.f kj5 t273 t274 t275).bind fun bt293 => (if bt285.2.2 = true then (if bt289.2.2 = true then (if (bt289.1 == t277 && (bt289.2.1 == t278)) = true then (if (t275.size : Int) > 40 then (some true) else (if bt293.2.2 = true then (some (bt293.1 == t277 && (bt293.2.1 == t278))) else (some false))) else (some false)) else (if (t275.size : Int) > 40 then (some true) else (if bt293.2.2 = true then (some (bt293.1 == t277 && (bt293.2.1 == t278))) else (some false)))) else (some false))))) else (none)) else (none)) = some r := by rw [if_pos rfl] at H; exact H
      clear H
      have H := H1
      clear H1
      obtain ⟨ji33, hji33⟩ : ∃ j_ : Int, (wrap64 ((t275.size : Int) / 2)) = j_ := ⟨_, rfl⟩
      replace H : (if 0 ≤ (ji33) then (if (ji33) ≤ (t275.size : Int) then ((impl_LongFrom.f kj5 t273 t274 (t275.extract 0 ((ji33) : Int).toNat)).bind fun bt285 => ((impl_LongFrom.f kj5 bt285.1 bt285.2.1 (t275.extract ((ji33) : Int).toNat t275.size)).bind fun bt289 => ((impl_DancedFrom.f kj5 t273 t274 t275).bind fun bt293 => (if bt285.2.2 = true then (if bt289.2.2 = true then (if (bt289.1 == t277 && (bt289.2.1 == t278)) = true then (if (t275.size : Int) > 40 then (some true) else (if bt293.2.2 = true then (some (bt293.1 == t277 && (bt293.2.1 == t278))) else (some false))) else (some false)) else (if (t275.size : Int) > 40 then (some true) else (if bt293.2.2 = true then (some (bt293.1 == t277 && (bt293.2.1 == t278))) else (some false)))) else (some false))))) else (none)) else (none)) = some r := by first | (rw [hji33] at H; exact H) | (simp only [hji33] at H ⊢; exact H)
      have hji33w : (IntKind.i64.wrap ((t275.size : Int) / 2)) = ji33 := (i64_w _).trans hji33
      by_cases c34 : 0 ≤ (ji33)
      ·
       rw [if_pos c34] at H
       have c34b0 := eq_true c34
       have c34b1 : decide (0 ≤ (ji33)) = true := decide_eq_true c34
       clear c34
       by_cases c35 : (ji33) ≤ (t275.size : Int)
       ·
        rw [if_pos c35] at H
        have c35b0 := eq_true c35
        have c35b1 : decide ((ji33) ≤ (t275.size : Int)) = true := decide_eq_true c35
        clear c35
        replace H := Option.bind_eq_some_iff.mp H
        obtain ⟨⟨t285, t286, t287⟩, A360, H⟩ := H
        replace H : ((impl_LongFrom.f kj5 t285 t286 (t275.extract ((ji33) : Int).toNat t275.size)).bind fun bt289 => ((impl_DancedFrom.f kj5 t273 t274 t275).bind fun bt293 => (if t287 = true then (if bt289.2.2 = true then (if (bt289.1 == t277 && (bt289.2.1 == t278)) = true then (if (t275.size : Int) > 40 then (some true) else (if bt293.2.2 = true then (some (bt293.1 == t277 && (bt293.2.1 == t278))) else (some false))) else (some false)) else (if (t275.size : Int) > 40 then (some true) else (if bt293.2.2 = true then (some (bt293.1 == t277 && (bt293.2.1 == t278))) else (some false)))) else (some false)))) = some r := H
        have A36 := Aside0.mk A360
        clear A360
        have c37b0 := eq_true (of_decide_eq_true (by first | (with_reducible assumption) | assumption) : 0 ≤ (ji33))
        have c38b0 := eq_true (of_decide_eq_true (by first | (with_reducible assumption) | assumption) : (ji33) ≤ (t275.size : Int))
        replace H := Option.bind_eq_some_iff.mp H
        obtain ⟨⟨t289, t290, t291⟩, A390, H⟩ := H
        replace H : ((impl_DancedFrom.f kj5 t273 t274 t275).bind fun bt293 => (if t287 = true then (if t291 = true then (if (t289 == t277 && (t290 == t278)) = true then (if (t275.size : Int) > 40 then (some true) else (if bt293.2.2 = true then (some (bt293.1 == t277 && (bt293.2.1 == t278))) else (some false))) else (some false)) else (if (t275.size : Int) > 40 then (some true) else (if bt293.2.2 = true then (some (bt293.1 == t277 && (bt293.2.1 == t278))) else (some false)))) else (some false))) = some r := H
        have A39 := Aside0.mk A390
        clear A390
        replace H := Option.bind_eq_some_iff.mp H
        obtain ⟨⟨t293, t294, t295⟩, A400, H⟩ := H
        replace H : (if t287 = true then (if t291 = true then (if (t289 == t277 && (t290 == t278)) = true then (if (t275.size : Int) > 40 then (some true) else (if t295 = true then (some (t293 == t277 && (t294 == t278))) else (some false))) else (some false)) else (if (t275.size : Int) > 40 then (some true) else (if t295 = true then (some (t293 == t277 && (t294 == t278))) else (some false)))) else (some false)) = some r := H
        have A40 := Aside0.mk A400
        clear A400
        by_cases c41 : t287 = true
        ·
         subst c41
         have H1 : (if t291 = true then (if (t289 == t277 && (t290 == t278)) = true then (if (t275.size : Int) > 40 then (some true) else (if t295 = true then (some (t293 == t277 && (t294 == t278))) else (some false))) else (some false)) else (if (t275.size : Int) > 40 then (some true) else (if t295 = true then (some (t293 == t277 && (t294 == t278))) else (some false)))) = some r := by rw [if_pos rfl] at H; exact H
         clear H
         have H := H1
         clear H1
         by_cases c42 : t291 = true
         ·
          subst c42
          have H1 : (if (t289 == t277 && (t290 == t278)) = true then (if (t275.size : Int) > 40 then (some true) else (if t295 = true then (some (t293 == t277 && (t294 == t278))) else (some false))) else (some false)) = some r := by rw [if_pos rfl] at H; exact H
          clear H
          have H := H1
          clear H1
          by_cases c43 : (t289 == t277 && (t290 == t278)) = true
          ·
           rw [if_pos c43] at H
           have c43b0 : (t289 == t277 && (t290 == t278)) = true := c43
           (try (have c43b1 : decide (t289 = t277 && (t290 == t278)) = true := by simpa using c43))
           (try (have c43b2 : (t289 == t277 && (t290 == t278)) = true := by simpa using c43))
           clear c43
           by_cases c44 : (t275.size : Int) > 40
           ·
            rw [if_pos c44] at H
            have c44b0 : decide (40 < (t275.size : Int)) = true := decide_eq_true c44
            have c44b1 : decide (40 < t275.size) = true := decide_eq_true (by omega)
            clear c44
            obtain rfl := Option.some.inj H
            try go_wp2
            have n0_ := Aside0.mk (blk_drew BK276.out)
            have n1_ := Aside0.mk (blk_drew BK280.out)
            have n2_ := Aside0.mk (blk_drew BK284.out)
            have n3_ := Aside0.mk (below_drew1 HB.out)
            clear BK276
            clear BK280
            clear BK284
            clear HB
            have BK276 := n0_
            have BK280 := n1_
            have BK284 := n2_
            have HB := n3_
            clear n0_ n1_ n2_ n3_
            refine start_ (n := 11) (S := fun w' => w'.cell? ⟨gb276, 0, none⟩ = some (.int .i64 t273) ∧ w'.cell? ⟨gb276, 1, none⟩ = some (.int .i64 t274)) (ds := []) #[false, false, false, false, false, false, false, false, false, false, false] (by kernel_rfl) rfl rfl ⟨(blk_cell BK276.out 0).trans rfl, (blk_cell BK276.out 1).trans rfl⟩ (fun hHeld => ?_); refine with_tabW laws_FnLongFrom.tab11 laws_FnLongFrom.bits11 (fun HT_ HW_ => ?_)
            generalize wc.drew = w45 at BK276 BK280 BK284 HB hHeld ⊢
            refine pure_ (i := 1) (N := some 57) (v := ?_) (a' := ?_) #[false, true, false, false, false, false, false, false, false, false, false] rfl rfl (any_of HT_.out (by kernel_rfl)) (fun _ _ _ h => h) (Or.inl ⟨by rfl, ?_⟩) ?_ ?_
            rotate_left
            ·
             intro w'
             go_simp
             with_reducible rfl
            rotate_left
            ·
             simp only [Act.put, List.setIfInBounds_toArray, List.set_cons_zero, List.set_cons_succ, i64_w, i32_w]
             rfl
            refine pure_ (i := 2) (N := some 58) (v := ?_) (a' := ?_) #[false, true, true, false, false, false, false, false, false, false, false] rfl rfl (any_of HT_.out (by kernel_rfl)) (fun _ _ _ h => h) (Or.inl ⟨by rfl, ?_⟩) ?_ ?_
            rotate_left
            ·
             intro w'
             go_simp
             with_reducible rfl
            rotate_left
            ·
             simp only [Act.put, List.setIfInBounds_toArray, List.set_cons_zero, List.set_cons_succ, i64_w, i32_w]
             rfl
            refine pure_ (i := 3) (N := some 59) (v := ?_) (a' := ?_) #[false, true, true, true, false, false, false, false, false, false, false] rfl rfl (any_of HT_.out (by kernel_rfl)) (fun _ _ _ h => h) (Or.inl ⟨by rfl, ?_⟩) ?_ ?_
            rotate_left
            ·
             intro w'
             go_simp
             with_reducible rfl
            rotate_left
            ·
             simp only [Act.put, List.setIfInBounds_toArray, List.set_cons_zero, List.set_cons_succ, i64_w, i32_w]
             rfl
            refine take_ (i := 0) (N := some 56) (v := ?_) (a' := ?_) #[true, true, true, true, false, false, false, false, false, false, false] rfl rfl (take_ofW HT_.out HW_.out (by kernel_rfl)) (fun _ _ _ h => h) (Or.inl ⟨by rfl, ?_⟩) hHeld ?_ ?_
            rotate_left
            ·
             rintro w' ⟨s0, s1⟩
             go_simp
             with_reducible rfl
            rotate_left
            ·
             simp only [Act.put, List.setIfInBounds_toArray, List.set_cons_zero, List.set_cons_succ, i64_w, i32_w]
             rfl
            refine join_ (σ := Nat) 2 #[true, true, true, true, true, true, true, true, true, false, false] (fun s_ => [(60, .tuple #[.agg #[.int .i64 t285, .int .i64 t286], .bool true]), (10, .pointer (some ⟨s_, 0, none⟩)), (55, .tuple #[.agg #[.int .i64 t285, .int .i64 t286], .bool true]), (61, .agg #[.int .i64 t285, .int .i64 t286]), (62, .bool true)]) (fun s_ w' => (w'.cell? ⟨gb276, 0, none⟩ = some (.int .i64 t273) ∧ w'.cell? ⟨gb276, 1, none⟩ = some (.int .i64 t274)) ∧ (w'.heap[gb276]? = some (.cells #[.int .i64 t273, .int .i64 t274] 25 (0, 0))) ∧ (w'.heap[gb280]? = some (.cells #[.int .i64 t277, .int .i64 t278] 25 (0, 0))) ∧ (w'.heap[gb284]? = some (.cells #[.int .i64 t281, .int .i64 t282] 25 (0, 0))) ∧ (w'.heap[s_]? = some (.cells #[.int .i64 0, .int .i64 0] 25 (0, 0))) ∧ (w.heap.size ≤ s_) ∧ (w.heap.size ≤ s_) ∧ (gb276 ≠ s_) ∧ (s_ ≠ gb276) ∧ (gb280 ≠ s_) ∧ (s_ ≠ gb280) ∧ (gb284 ≠ s_) ∧ (s_ ≠ gb284) ∧ (Below w.heap.size w w')) ?_ ?_
            rotate_left
            ·
             intro hCont
             refine two_ (i := 4) (j := 8) (Ni := some 60) (Nj := some 10) #[true, true, true, true, true, false, false, false, false, false, false] #[true, true, true, true, false, false, false, false, true, false, false] rfl rfl rfl rfl (two_of HT_.out (by kernel_rfl)) (by decide) (by decide) (fun K hK => ?_) (fun K hK => ?_)
             ·
              skip
              refine goes_ Tryd.func22 (by kernel_rfl) rfl #[.agg #[.int .i64 t273, .int .i64 t274], .string (t275.extract 0 ((ji33) : Int).toNat)] (by rfl) rfl rfl (by (try simp only [List.map_toArray, List.map_cons, List.map_nil]); first | done | (simp only [hji33]; rfl) | rfl | (simp only [List.length_drop, List.length_take]; rfl)) ?_
              with_reducible refine (impl_LongFrom.calls kj5 t273 t274 (t275.extract 0 ((ji33) : Int).toNat) t285 t286 true _ A36.out).mono ?_
              rintro e w46 ⟨rfl, hb⟩
              refine ⟨_, rfl, ?_⟩
              have n0_ := Aside0.mk (blk_below (g := gb276) (o := .cells #[.int .i64 t273, .int .i64 t274] 25 (0, 0)) (kb BK276.out) hb)
              have n1_ := Aside0.mk (blk_below (g := gb280) (o := .cells #[.int .i64 t277, .int .i64 t278] 25 (0, 0)) (kb BK280.out) hb)
              have n2_ := Aside0.mk (blk_below (g := gb284) (o := .cells #[.int .i64 t281, .int .i64 t282] 25 (0, 0)) (kb BK284.out) hb)
              have n3_ := Aside0.mk (below_step (lb3 HB.out GE276.out GE280.out GE284.out) hb)
              clear BK276
              clear BK280
              clear BK284
              clear HB
              have BK276 := n0_
              have BK280 := n1_
              have BK284 := n2_
              have HB := n3_
              clear n0_ n1_ n2_ n3_
              (try clear hb)
              (try clear hb2)
              (try clear hk)
              (try clear hi)
              refine hK.out _ _ ⟨(blk_cell BK276.out 0).trans rfl, (blk_cell BK276.out 1).trans rfl⟩ (fun hHeld => ?_)
              clear hK K
              refine norm_ (a' := ?_) ?_ ?_
              rotate_left
              ·
               show Act.put _ (some 60) _ = _
               simp only [Act.put, List.setIfInBounds_toArray, List.set_cons_zero, List.set_cons_succ, i64_w, i32_w]
               rfl
              refine pure_ (i := 5) (N := some 55) (v := ?_) (a' := ?_) #[true, true, true, true, true, true, false, false, false, false, false] rfl rfl (any_of HT_.out (by kernel_rfl)) (fun _ _ _ h => h) (Or.inl ⟨by rfl, ?_⟩) ?_ ?_
              rotate_left
              ·
               intro w'
               go_simp
               with_reducible rfl
              rotate_left
              ·
               simp only [Act.put, List.setIfInBounds_toArray, List.set_cons_zero, List.set_cons_succ, i64_w, i32_w]
               rfl
              refine pure_ (i := 6) (N := some 61) (v := ?_) (a' := ?_) #[true, true, true, true, true, true, true, false, false, false, false] rfl rfl (any_of HT_.out (by kernel_rfl)) (fun _ _ _ h => h) (Or.inl ⟨by rfl, ?_⟩) ?_ ?_
              rotate_left
              ·
               intro w'
               go_simp
               with_reducible rfl
              rotate_left
              ·
               simp only [Act.put, List.setIfInBounds_toArray, List.set_cons_zero, List.set_cons_succ, i64_w, i32_w]
               rfl
              refine pure_ (i := 7) (N := some 62) (v := ?_) (a' := ?_) #[true, true, true, true, true, true, true, true, false, false, false] rfl rfl (any_of HT_.out (by kernel_rfl)) (fun _ _ _ h => h) (Or.inl ⟨by rfl, ?_⟩) ?_ ?_
              rotate_left
              ·
               intro w'
               go_simp
               with_reducible rfl
              rotate_left
              ·
               simp only [Act.put, List.setIfInBounds_toArray, List.set_cons_zero, List.set_cons_succ, i64_w, i32_w]
               rfl
              refine one_ (i := 8) (N := some 10) #[true, true, true, true, true, true, true, true, true, false, false] rfl rfl (one_of HT_.out (by kernel_rfl)) (by decide) (fun K hK => ?_)
              refine box_step ?hg (N := 10) ?hd (cs := #[.int .i64 0, .int .i64 0]) (t := 25) ?hr ?_; (case hd => rfl); (case hg => rfl); (case hr => first | (go_simp; done) | (go_simp; rfl))
              intro gb288 hg w47 hbox hb
              have n0_ := Aside0.mk (blk_below (g := gb276) (o := .cells #[.int .i64 t273, .int .i64 t274] 25 (0, 0)) (kb BK276.out) hb)
              have n1_ := Aside0.mk (blk_below (g := gb280) (o := .cells #[.int .i64 t277, .int .i64 t278] 25 (0, 0)) (kb BK280.out) hb)
              have n2_ := Aside0.mk (blk_below (g := gb284) (o := .cells #[.int .i64 t281, .int .i64 t282] 25 (0, 0)) (kb BK284.out) hb)
              have n3_ := Aside0.mk (below_step (lb3 HB.out GE276.out GE280.out GE284.out) hb)
              have n4_ := Aside0.mk (hbox)
              have n5_ := Aside0.mk ((by rw [hg]; exact (below_size (lb3 HB.out GE276.out GE280.out GE284.out)) : w.heap.size ≤ gb288))
              have n6_ := Aside0.mk ((by rw [hg]; exact (below_size (lb3 HB.out GE276.out GE280.out GE284.out)) : w.heap.size ≤ gb288))
              have n7_ := Aside0.mk ((by rw [hg]; exact Nat.ne_of_lt (blk_lt (g := gb276) (o := .cells #[.int .i64 t273, .int .i64 t274] 25 (0, 0)) (kb BK276.out)) : gb276 ≠ gb288))
              have n8_ := Aside0.mk ((by rw [hg]; exact Nat.ne_of_gt (blk_lt (g := gb276) (o := .cells #[.int .i64 t273, .int .i64 t274] 25 (0, 0)) (kb BK276.out)) : gb288 ≠ gb276))
              have n9_ := Aside0.mk ((by rw [hg]; exact Nat.ne_of_lt (blk_lt (g := gb280) (o := .cells #[.int .i64 t277, .int .i64 t278] 25 (0, 0)) (kb BK280.out)) : gb280 ≠ gb288))
              have n10_ := Aside0.mk ((by rw [hg]; exact Nat.ne_of_gt (blk_lt (g := gb280) (o := .cells #[.int .i64 t277, .int .i64 t278] 25 (0, 0)) (kb BK280.out)) : gb288 ≠ gb280))
              have n11_ := Aside0.mk ((by rw [hg]; exact Nat.ne_of_lt (blk_lt (g := gb284) (o := .cells #[.int .i64 t281, .int .i64 t282] 25 (0, 0)) (kb BK284.out)) : gb284 ≠ gb288))
              have n12_ := Aside0.mk ((by rw [hg]; exact Nat.ne_of_gt (blk_lt (g := gb284) (o := .cells #[.int .i64 t281, .int .i64 t282] 25 (0, 0)) (kb BK284.out)) : gb288 ≠ gb284))
              clear BK276
              clear BK280
              clear BK284
              clear HB
              have BK276 := n0_
              have BK280 := n1_
              have BK284 := n2_
              have HB := n3_
              have BK288 := n4_
              have GW288 := n5_
              have GE288 := n6_
              have NB276_288 := n7_
              have NB288_276 := n8_
              have NB280_288 := n9_
              have NB288_280 := n10_
              have NB284_288 := n11_
              have NB288_284 := n12_
              clear n0_ n1_ n2_ n3_ n4_ n5_ n6_ n7_ n8_ n9_ n10_ n11_ n12_
              clear hb hbox hg
              refine hK.out _ _ ⟨(blk_cell BK276.out 0).trans rfl, (blk_cell BK276.out 1).trans rfl⟩ (fun hHeld => ?_)
              clear hK K
              refine norm_ (a' := ?_) ?_ ?_
              rotate_left
              ·
               show Act.put _ (some 10) _ = _
               simp only [Act.put, List.setIfInBounds_toArray, List.set_cons_zero, List.set_cons_succ, i64_w, i32_w]
               rfl
              exact norm_ (by simp only [putAll, Act.put, List.setIfInBounds_toArray, List.set_cons_zero, List.set_cons_succ]) (hCont (gb288) _ ⟨hHeld, (kb BK276.out), (kb BK280.out), (kb BK284.out), (kb BK288.out), GW288.out, GE288.out, NB276_288.out, NB288_276.out, NB280_288.out, NB288_280.out, NB284_288.out, NB288_284.out, (lb4 HB.out GE276.out GE280.out GE284.out GE288.out)⟩)
             ·
              skip
              refine box_step ?hg (N := 10) ?hd (cs := #[.int .i64 0, .int .i64 0]) (t := 25) ?hr ?_; (case hd => rfl); (case hg => rfl); (case hr => first | (go_simp; done) | (go_simp; rfl))
              intro gb288 hg w46 hbox hb
              have n0_ := Aside0.mk (blk_below (g := gb276) (o := .cells #[.int .i64 t273, .int .i64 t274] 25 (0, 0)) (kb BK276.out) hb)
              have n1_ := Aside0.mk (blk_below (g := gb280) (o := .cells #[.int .i64 t277, .int .i64 t278] 25 (0, 0)) (kb BK280.out) hb)
              have n2_ := Aside0.mk (blk_below (g := gb284) (o := .cells #[.int .i64 t281, .int .i64 t282] 25 (0, 0)) (kb BK284.out) hb)
              have n3_ := Aside0.mk (below_step (lb3 HB.out GE276.out GE280.out GE284.out) hb)
              have n4_ := Aside0.mk (hbox)
              have n5_ := Aside0.mk ((by rw [hg]; exact (below_size (lb3 HB.out GE276.out GE280.out GE284.out)) : w.heap.size ≤ gb288))
              have n6_ := Aside0.mk ((by rw [hg]; exact (below_size (lb3 HB.out GE276.out GE280.out GE284.out)) : w.heap.size ≤ gb288))
              have n7_ := Aside0.mk ((by rw [hg]; exact Nat.ne_of_lt (blk_lt (g := gb276) (o := .cells #[.int .i64 t273, .int .i64 t274] 25 (0, 0)) (kb BK276.out)) : gb276 ≠ gb288))
              have n8_ := Aside0.mk ((by rw [hg]; exact Nat.ne_of_gt (blk_lt (g := gb276) (o := .cells #[.int .i64 t273, .int .i64 t274] 25 (0, 0)) (kb BK276.out)) : gb288 ≠ gb276))
              have n9_ := Aside0.mk ((by rw [hg]; exact Nat.ne_of_lt (blk_lt (g := gb280) (o := .cells #[.int .i64 t277, .int .i64 t278] 25 (0, 0)) (kb BK280.out)) : gb280 ≠ gb288))
              have n10_ := Aside0.mk ((by rw [hg]; exact Nat.ne_of_gt (blk_lt (g := gb280) (o := .cells #[.int .i64 t277, .int .i64 t278] 25 (0, 0)) (kb BK280.out)) : gb288 ≠ gb280))
              have n11_ := Aside0.mk ((by rw [hg]; exact Nat.ne_of_lt (blk_lt (g := gb284) (o := .cells #[.int .i64 t281, .int .i64 t282] 25 (0, 0)) (kb BK284.out)) : gb284 ≠ gb288))
              have n12_ := Aside0.mk ((by rw [hg]; exact Nat.ne_of_gt (blk_lt (g := gb284) (o := .cells #[.int .i64 t281, .int .i64 t282] 25 (0, 0)) (kb BK284.out)) : gb288 ≠ gb284))
              clear BK276
              clear BK280
              clear BK284
              clear HB
              have BK276 := n0_
              have BK280 := n1_
              have BK284 := n2_
              have HB := n3_
              have BK288 := n4_
              have GW288 := n5_
              have GE288 := n6_
              have NB276_288 := n7_
              have NB288_276 := n8_
              have NB280_288 := n9_
              have NB288_280 := n10_
              have NB284_288 := n11_
              have NB288_284 := n12_
              clear n0_ n1_ n2_ n3_ n4_ n5_ n6_ n7_ n8_ n9_ n10_ n11_ n12_
              clear hb hbox hg
              refine hK.out _ _ ⟨(blk_cell BK276.out 0).trans rfl, (blk_cell BK276.out 1).trans rfl⟩ (fun hHeld => ?_)
              clear hK K
              refine norm_ (a' := ?_) ?_ ?_
              rotate_left
              ·
               show Act.put _ (some 10) _ = _
               simp only [Act.put, List.setIfInBounds_toArray, List.set_cons_zero, List.set_cons_succ, i64_w, i32_w]
               rfl
              refine one_ (i := 4) (N := some 60) #[true, true, true, true, true, false, false, false, true, false, false] rfl rfl (one_of HT_.out (by kernel_rfl)) (by decide) (fun K hK => ?_)
              refine goes_ Tryd.func22 (by kernel_rfl) rfl #[.agg #[.int .i64 t273, .int .i64 t274], .string (t275.extract 0 ((ji33) : Int).toNat)] (by rfl) rfl rfl (by (try simp only [List.map_toArray, List.map_cons, List.map_nil]); first | done | (simp only [hji33]; rfl) | rfl | (simp only [List.length_drop, List.length_take]; rfl)) ?_
              with_reducible refine (impl_LongFrom.calls kj5 t273 t274 (t275.extract 0 ((ji33) : Int).toNat) t285 t286 true _ A36.out).mono ?_
              rintro e w47 ⟨rfl, hb⟩
              refine ⟨_, rfl, ?_⟩
              have n0_ := Aside0.mk (blk_below (g := gb276) (o := .cells #[.int .i64 t273, .int .i64 t274] 25 (0, 0)) (kb BK276.out) hb)
              have n1_ := Aside0.mk (blk_below (g := gb280) (o := .cells #[.int .i64 t277, .int .i64 t278] 25 (0, 0)) (kb BK280.out) hb)
              have n2_ := Aside0.mk (blk_below (g := gb284) (o := .cells #[.int .i64 t281, .int .i64 t282] 25 (0, 0)) (kb BK284.out) hb)
              have n3_ := Aside0.mk (blk_below (g := gb288) (o := .cells #[.int .i64 0, .int .i64 0] 25 (0, 0)) (kb BK288.out) hb)
              have n4_ := Aside0.mk (below_step (lb4 HB.out GE276.out GE280.out GE284.out GE288.out) hb)
              clear BK276
              clear BK280
              clear BK284
              clear BK288
              clear HB
              have BK276 := n0_
              have BK280 := n1_
              have BK284 := n2_
              have BK288 := n3_
              have HB := n4_
              clear n0_ n1_ n2_ n3_ n4_
              (try clear hb)
              (try clear hb2)
              (try clear hk)
              (try clear hi)
              refine hK.out _ _ ⟨(blk_cell BK276.out 0).trans rfl, (blk_cell BK276.out 1).trans rfl⟩ (fun hHeld => ?_)
              clear hK K
              refine norm_ (a' := ?_) ?_ ?_
              rotate_left
              ·
               show Act.put _ (some 60) _ = _
               simp only [Act.put, List.setIfInBounds_toArray, List.set_cons_zero, List.set_cons_succ, i64_w, i32_w]
               rfl
              refine pure_ (i := 5) (N := some 55) (v := ?_) (a' := ?_) #[true, true, true, true, true, true, false, false, true, false, false] rfl rfl (any_of HT_.out (by kernel_rfl)) (fun _ _ _ h => h) (Or.inl ⟨by rfl, ?_⟩) ?_ ?_
              rotate_left
              ·
               intro w'
               go_simp
               with_reducible rfl
              rotate_left
              ·
               simp only [Act.put, List.setIfInBounds_toArray, List.set_cons_zero, List.set_cons_succ, i64_w, i32_w]
               rfl
              refine pure_ (i := 6) (N := some 61) (v := ?_) (a' := ?_) #[true, true, true, true, true, true, true, false, true, false, false] rfl rfl (any_of HT_.out (by kernel_rfl)) (fun _ _ _ h => h) (Or.inl ⟨by rfl, ?_⟩) ?_ ?_
              rotate_left
              ·
               intro w'
               go_simp
               with_reducible rfl
              rotate_left
              ·
               simp only [Act.put, List.setIfInBounds_toArray, List.set_cons_zero, List.set_cons_succ, i64_w, i32_w]
               rfl
              refine pure_ (i := 7) (N := some 62) (v := ?_) (a' := ?_) #[true, true, true, true, true, true, true, true, true, false, false] rfl rfl (any_of HT_.out (by kernel_rfl)) (fun _ _ _ h => h) (Or.inl ⟨by rfl, ?_⟩) ?_ ?_
              rotate_left
              ·
               intro w'
               go_simp
               with_reducible rfl
              rotate_left
              ·
               simp only [Act.put, List.setIfInBounds_toArray, List.set_cons_zero, List.set_cons_succ, i64_w, i32_w]
               rfl
              exact norm_ (by simp only [putAll, Act.put, List.setIfInBounds_toArray, List.set_cons_zero, List.set_cons_succ]) (hCont (gb288) _ ⟨hHeld, (kb BK276.out), (kb BK280.out), (kb BK284.out), (kb BK288.out), GW288.out, GE288.out, NB276_288.out, NB288_276.out, NB280_288.out, NB288_280.out, NB284_288.out, NB288_284.out, (lb4 HB.out GE276.out GE280.out GE284.out GE288.out)⟩)
            rintro gb288 w48 ⟨hS_, h0_, h1_, h2_, h3_, h4_, h5_, h6_, h7_, h8_, h9_, h10_, h11_, h12_⟩
            have n0_ : Aside0 (w48.heap[gb276]? = some (.cells #[.int .i64 t273, .int .i64 t274] 25 (0, 0))) := ⟨h0_⟩
            have n1_ : Aside0 (w48.heap[gb280]? = some (.cells #[.int .i64 t277, .int .i64 t278] 25 (0, 0))) := ⟨h1_⟩
            have n2_ : Aside0 (w48.heap[gb284]? = some (.cells #[.int .i64 t281, .int .i64 t282] 25 (0, 0))) := ⟨h2_⟩
            have n3_ : Aside0 (w48.heap[gb288]? = some (.cells #[.int .i64 0, .int .i64 0] 25 (0, 0))) := ⟨h3_⟩
            have n4_ : Aside0 (w.heap.size ≤ gb288) := ⟨h4_⟩
            have n5_ : Aside0 (w.heap.size ≤ gb288) := ⟨h5_⟩
            have n6_ : Aside0 (gb276 ≠ gb288) := ⟨h6_⟩
            have n7_ : Aside0 (gb288 ≠ gb276) := ⟨h7_⟩
            have n8_ : Aside0 (gb280 ≠ gb288) := ⟨h8_⟩
            have n9_ : Aside0 (gb288 ≠ gb280) := ⟨h9_⟩
            have n10_ : Aside0 (gb284 ≠ gb288) := ⟨h10_⟩
            have n11_ : Aside0 (gb288 ≠ gb284) := ⟨h11_⟩
            have n12_ : Aside0 (Below w.heap.size w w48) := ⟨h12_⟩
            clear BK276
            clear BK280
            clear BK284
            clear HB
            clear h0_ h1_ h2_ h3_ h4_ h5_ h6_ h7_ h8_ h9_ h10_ h11_ h12_
            have BK276 := n0_
            have BK280 := n1_
            have BK284 := n2_
            have BK288 := n3_
            have GW288 := n4_
            have GE288 := n5_
            have NB276_288 := n6_
            have NB288_276 := n7_
            have NB280_288 := n8_
            have NB288_280 := n9_
            have NB284_288 := n10_
            have NB288_284 := n11_
            have HB := n12_
            clear n0_ n1_ n2_ n3_ n4_ n5_ n6_ n7_ n8_ n9_ n10_ n11_ n12_
            have hHeld : w48.cell? ⟨gb276, 0, none⟩ = some (.int .i64 t273) ∧ w48.cell? ⟨gb276, 1, none⟩ = some (.int .i64 t274) := hS_
            refine norm_ (a' := ?_) ?_ ?_
            rotate_left
            ·
             simp only [putAll, Act.put, List.setIfInBounds_toArray, List.set_cons_zero, List.set_cons_succ]
             rfl
            refine one_ (i := 9) (N := none) #[true, true, true, true, true, true, true, true, true, true, false] rfl rfl (one_of HT_.out (by kernel_rfl)) (by decide) (fun K hK => ?_)
            have hs49 : w48.cell? ⟨gb288, 0, none⟩ = some (.int .i64 0) := (blk_cell BK288.out 0).trans rfl
            have hfs49 := blk_frozen BK288.out 0
            have hns49_0 := NB276_288.out
            have hns49_1 := NB280_288.out
            have hns49_2 := NB284_288.out
            have hms49_0 := NB288_276.out
            have hms49_1 := NB288_280.out
            have hms49_2 := NB288_284.out
            have hs50 : w48.cell? ⟨gb288, 1, none⟩ = some (.int .i64 0) := (blk_cell BK288.out 1).trans rfl
            have hfs50 := blk_frozen BK288.out 1
            have hns50_0 := NB276_288.out
            have hns50_1 := NB280_288.out
            have hns50_2 := NB284_288.out
            have hms50_0 := NB288_276.out
            have hms50_1 := NB288_280.out
            have hms50_2 := NB288_284.out
            refine skip_ (w1 := ?_) (by rfl) rfl ?_ ?_
            rotate_left
            ·
             go_simp
             rfl
            refine hK.out _ _ ⟨((cell_far (p := ⟨gb288, _, none⟩) NB276_288.out _).trans (((cell_far (p := ⟨gb288, _, none⟩) NB276_288.out _).trans (hHeld.1)))), ((cell_far (p := ⟨gb288, _, none⟩) NB276_288.out _).trans (((cell_far (p := ⟨gb288, _, none⟩) NB276_288.out _).trans (hHeld.2))))⟩ (fun hHeld => ?_)
            clear hK K
            refine pure_ (i := 10) (N := some 11) (v := ?_) (a' := ?_) #[true, true, true, true, true, true, true, true, true, true, true] rfl rfl (any_of HT_.out (by kernel_rfl)) (fun _ _ _ h => h) (Or.inl ⟨by rfl, ?_⟩) ?_ ?_
            rotate_left
            ·
             intro w'
             go_simp
             with_reducible rfl
            rotate_left
            ·
             simp only [Act.put, List.setIfInBounds_toArray, List.set_cons_zero, List.set_cons_succ, i64_w, i32_w]
             rfl
            refine done_ (done_of HT_.out (by kernel_rfl)) ?_
            try go_wp2
            have n0_ : Aside0 (((w48.setCell ⟨gb288, 0, none⟩ (.int .i64 t285)).setCell ⟨gb288, 1, none⟩ (.int .i64 t286)).heap[gb276]? = some (.cells #[.int .i64 t273, .int .i64 t274] 25 (0, 0))) := ⟨kf1 BK276.out NB276_288.out⟩
            have n1_ : Aside0 (((w48.setCell ⟨gb288, 0, none⟩ (.int .i64 t285)).setCell ⟨gb288, 1, none⟩ (.int .i64 t286)).heap[gb280]? = some (.cells #[.int .i64 t277, .int .i64 t278] 25 (0, 0))) := ⟨kf1 BK280.out NB280_288.out⟩
            have n2_ : Aside0 (((w48.setCell ⟨gb288, 0, none⟩ (.int .i64 t285)).setCell ⟨gb288, 1, none⟩ (.int .i64 t286)).heap[gb284]? = some (.cells #[.int .i64 t281, .int .i64 t282] 25 (0, 0))) := ⟨kf1 BK284.out NB284_288.out⟩
            have n3_ : Aside0 (((w48.setCell ⟨gb288, 0, none⟩ (.int .i64 t285)).setCell ⟨gb288, 1, none⟩ (.int .i64 t286)).heap[gb288]? = some (.cells #[.int .i64 t285, .int .i64 t286] 25 (0, 0))) := ⟨by (with_reducible repeat (first | refine blk_drewN ?_ _ | refine blk_drew ?_ | refine blk_alloc ?_ _)); refine blk_put (cs := #[.int .i64 t285, .int .i64 0]) ?_ 1 _ rfl; (with_reducible repeat (first | refine blk_drewN ?_ _ | refine blk_drew ?_ | refine blk_alloc ?_ _)); refine blk_put (cs := #[.int .i64 0, .int .i64 0]) ?_ 0 _ rfl; (with_reducible repeat (first | refine blk_drewN ?_ _ | refine blk_drew ?_ | refine blk_alloc ?_ _)); exact BK288.out⟩
            have n4_ : Aside0 (Below w.heap.size w ((w48.setCell ⟨gb288, 0, none⟩ (.int .i64 t285)).setCell ⟨gb288, 1, none⟩ (.int .i64 t286))) := ⟨by repeat (first | (with_reducible first | exact HB.out | apply below_alloc | apply pw_below_drewN | apply below_drew1 | refine below_set ?_ GE276.out | refine below_set ?_ GE280.out | refine below_set ?_ GE284.out | refine below_set ?_ GE288.out) | exact HB.out)⟩
            (try clear BK276)
            (try clear BK280)
            (try clear BK284)
            (try clear BK288)
            (try clear HB)
            generalize ((w48.setCell ⟨gb288, 0, none⟩ (.int .i64 t285)).setCell ⟨gb288, 1, none⟩ (.int .i64 t286)) = w51 at n0_ n1_ n2_ n3_ n4_ ⊢
            have BK276 := n0_
            have BK280 := n1_
            have BK284 := n2_
            have BK288 := n3_
            have HB := n4_
            clear n0_ n1_ n2_ n3_ n4_
            have n0_ := Aside0.mk (blk_drew BK276.out)
            have n1_ := Aside0.mk (blk_drew BK280.out)
            have n2_ := Aside0.mk (blk_drew BK284.out)
            have n3_ := Aside0.mk (blk_drew BK288.out)
            have n4_ := Aside0.mk (below_drew1 HB.out)
            clear BK276
            clear BK280
            clear BK284
            clear BK288
            clear HB
            have BK276 := n0_
            have BK280 := n1_
            have BK284 := n2_
            have BK288 := n3_
            have HB := n4_
            clear n0_ n1_ n2_ n3_ n4_
            refine start_ (n := 11) (S := fun w' => w'.cell? ⟨gb288, 0, none⟩ = some (.int .i64 t285) ∧ w'.cell? ⟨gb288, 1, none⟩ = some (.int .i64 t286)) (ds := []) #[false, false, false, false, false, false, false, false, false, false, false] (by kernel_rfl) rfl rfl ⟨(blk_cell BK288.out 0).trans rfl, (blk_cell BK288.out 1).trans rfl⟩ (fun hHeld => ?_); refine with_tabW laws_FnLongFrom.tab12 laws_FnLongFrom.bits12 (fun HT_ HW_ => ?_)
            generalize w51.drew = w52 at BK276 BK280 BK284 BK288 HB hHeld ⊢
            refine pure_ (i := 1) (N := some 65) (v := ?_) (a' := ?_) #[false, true, false, false, false, false, false, false, false, false, false] rfl rfl (any_of HT_.out (by kernel_rfl)) (fun _ _ _ h => h) (Or.inl ⟨by rfl, ?_⟩) ?_ ?_
            rotate_left
            ·
             intro w'
             go_simp
             with_reducible rfl
            rotate_left
            ·
             simp only [Act.put, List.setIfInBounds_toArray, List.set_cons_zero, List.set_cons_succ, i64_w, i32_w]
             rfl
            refine pure_ (i := 2) (N := some 66) (v := ?_) (a' := ?_) #[false, true, true, false, false, false, false, false, false, false, false] rfl rfl (any_of HT_.out (by kernel_rfl)) (fun _ _ _ h => h) (Or.inl ⟨by rfl, ?_⟩) ?_ ?_
            rotate_left
            ·
             intro w'
             go_simp
             with_reducible rfl
            rotate_left
            ·
             simp only [Act.put, List.setIfInBounds_toArray, List.set_cons_zero, List.set_cons_succ, i64_w, i32_w]
             rfl
            refine pure_ (i := 3) (N := some 67) (v := ?_) (a' := ?_) #[false, true, true, true, false, false, false, false, false, false, false] rfl rfl (any_of HT_.out (by kernel_rfl)) (fun _ _ _ h => h) (Or.inl ⟨by rfl, ?_⟩) ?_ ?_
            rotate_left
            ·
             intro w'
             go_simp
             with_reducible rfl
            rotate_left
            ·
             simp only [Act.put, List.setIfInBounds_toArray, List.set_cons_zero, List.set_cons_succ, i64_w, i32_w]
             rfl
            refine take_ (i := 0) (N := some 64) (v := ?_) (a' := ?_) #[true, true, true, true, false, false, false, false, false, false, false] rfl rfl (take_ofW HT_.out HW_.out (by kernel_rfl)) (fun _ _ _ h => h) (Or.inl ⟨by rfl, ?_⟩) hHeld ?_ ?_
            rotate_left
            ·
             rintro w' ⟨s0, s1⟩
             go_simp
             with_reducible rfl
            rotate_left
            ·
             simp only [Act.put, List.setIfInBounds_toArray, List.set_cons_zero, List.set_cons_succ, i64_w, i32_w]
             rfl
            refine join_ (σ := Nat) 2 #[true, true, true, true, true, true, true, true, true, false, false] (fun s_ => [(68, .tuple #[.agg #[.int .i64 t289, .int .i64 t290], .bool true]), (12, .pointer (some ⟨s_, 0, none⟩)), (63, .tuple #[.agg #[.int .i64 t289, .int .i64 t290], .bool true]), (69, .agg #[.int .i64 t289, .int .i64 t290]), (70, .bool true)]) (fun s_ w' => (w'.cell? ⟨gb288, 0, none⟩ = some (.int .i64 t285) ∧ w'.cell? ⟨gb288, 1, none⟩ = some (.int .i64 t286)) ∧ (w'.heap[gb276]? = some (.cells #[.int .i64 t273, .int .i64 t274] 25 (0, 0))) ∧ (w'.heap[gb280]? = some (.cells #[.int .i64 t277, .int .i64 t278] 25 (0, 0))) ∧ (w'.heap[gb284]? = some (.cells #[.int .i64 t281, .int .i64 t282] 25 (0, 0))) ∧ (w'.heap[gb288]? = some (.cells #[.int .i64 t285, .int .i64 t286] 25 (0, 0))) ∧ (w'.heap[s_]? = some (.cells #[.int .i64 0, .int .i64 0] 25 (0, 0))) ∧ (w.heap.size ≤ s_) ∧ (w.heap.size ≤ s_) ∧ (gb276 ≠ s_) ∧ (s_ ≠ gb276) ∧ (gb280 ≠ s_) ∧ (s_ ≠ gb280) ∧ (gb284 ≠ s_) ∧ (s_ ≠ gb284) ∧ (gb288 ≠ s_) ∧ (s_ ≠ gb288) ∧ (Below w.heap.size w w')) ?_ ?_
            rotate_left
            ·
             intro hCont
             refine two_ (i := 4) (j := 8) (Ni := some 68) (Nj := some 12) #[true, true, true, true, true, false, false, false, false, false, false] #[true, true, true, true, false, false, false, false, true, false, false] rfl rfl rfl rfl (two_of HT_.out (by kernel_rfl)) (by decide) (by decide) (fun K hK => ?_) (fun K hK => ?_)
             ·
              skip
              refine goes_ Tryd.func22 (by kernel_rfl) rfl #[.agg #[.int .i64 t285, .int .i64 t286], .string (t275.extract ((ji33) : Int).toNat t275.size)] (by rfl) rfl rfl (by (try simp only [List.map_toArray, List.map_cons, List.map_nil]); first | done | (simp only [hji33]; rfl) | rfl | (simp only [List.length_drop, List.length_take]; rfl)) ?_
              with_reducible refine (impl_LongFrom.calls kj5 t285 t286 (t275.extract ((ji33) : Int).toNat t275.size) t289 t290 true _ A39.out).mono ?_
              rintro e w53 ⟨rfl, hb⟩
              refine ⟨_, rfl, ?_⟩
              have n0_ := Aside0.mk (blk_below (g := gb276) (o := .cells #[.int .i64 t273, .int .i64 t274] 25 (0, 0)) (kb BK276.out) hb)
              have n1_ := Aside0.mk (blk_below (g := gb280) (o := .cells #[.int .i64 t277, .int .i64 t278] 25 (0, 0)) (kb BK280.out) hb)
              have n2_ := Aside0.mk (blk_below (g := gb284) (o := .cells #[.int .i64 t281, .int .i64 t282] 25 (0, 0)) (kb BK284.out) hb)
              have n3_ := Aside0.mk (blk_below (g := gb288) (o := .cells #[.int .i64 t285, .int .i64 t286] 25 (0, 0)) (kb BK288.out) hb)
              have n4_ := Aside0.mk (below_step (lb4 HB.out GE276.out GE280.out GE284.out GE288.out) hb)
              clear BK276
              clear BK280
              clear BK284
              clear BK288
              clear HB
              have BK276 := n0_
              have BK280 := n1_
              have BK284 := n2_
              have BK288 := n3_
              have HB := n4_
              clear n0_ n1_ n2_ n3_ n4_
              (try clear hb)
              (try clear hb2)
              (try clear hk)
              (try clear hi)
              refine hK.out _ _ ⟨(blk_cell BK288.out 0).trans rfl, (blk_cell BK288.out 1).trans rfl⟩ (fun hHeld => ?_)
              clear hK K
              refine norm_ (a' := ?_) ?_ ?_
              rotate_left
              ·
               show Act.put _ (some 68) _ = _
               simp only [Act.put, List.setIfInBounds_toArray, List.set_cons_zero, List.set_cons_succ, i64_w, i32_w]
               rfl
              refine pure_ (i := 5) (N := some 63) (v := ?_) (a' := ?_) #[true, true, true, true, true, true, false, false, false, false, false] rfl rfl (any_of HT_.out (by kernel_rfl)) (fun _ _ _ h => h) (Or.inl ⟨by rfl, ?_⟩) ?_ ?_
              rotate_left
              ·
               intro w'
               go_simp
               with_reducible rfl
              rotate_left
              ·
               simp only [Act.put, List.setIfInBounds_toArray, List.set_cons_zero, List.set_cons_succ, i64_w, i32_w]
               rfl
              refine pure_ (i := 6) (N := some 69) (v := ?_) (a' := ?_) #[true, true, true, true, true, true, true, false, false, false, false] rfl rfl (any_of HT_.out (by kernel_rfl)) (fun _ _ _ h => h) (Or.inl ⟨by rfl, ?_⟩) ?_ ?_
              rotate_left
              ·
               intro w'
               go_simp
               with_reducible rfl
              rotate_left
              ·
               simp only [Act.put, List.setIfInBounds_toArray, List.set_cons_zero, List.set_cons_succ, i64_w, i32_w]
               rfl
              refine pure_ (i := 7) (N := some 70) (v := ?_) (a' := ?_) #[true, true, true, true, true, true, true, true, false, false, false] rfl rfl (any_of HT_.out (by kernel_rfl)) (fun _ _ _ h => h) (Or.inl ⟨by rfl, ?_⟩) ?_ ?_
              rotate_left
              ·
               intro w'
               go_simp
               with_reducible rfl
              rotate_left
              ·
               simp only [Act.put, List.setIfInBounds_toArray, List.set_cons_zero, List.set_cons_succ, i64_w, i32_w]
               rfl
              refine one_ (i := 8) (N := some 12) #[true, true, true, true, true, true, true, true, true, false, false] rfl rfl (one_of HT_.out (by kernel_rfl)) (by decide) (fun K hK => ?_)
              refine box_step ?hg (N := 12) ?hd (cs := #[.int .i64 0, .int .i64 0]) (t := 25) ?hr ?_; (case hd => rfl); (case hg => rfl); (case hr => first | (go_simp; done) | (go_simp; rfl))
              intro gb292 hg w54 hbox hb
              have n0_ := Aside0.mk (blk_below (g := gb276) (o := .cells #[.int .i64 t273, .int .i64 t274] 25 (0, 0)) (kb BK276.out) hb)
              have n1_ := Aside0.mk (blk_below (g := gb280) (o := .cells #[.int .i64 t277, .int .i64 t278] 25 (0, 0)) (kb BK280.out) hb)
              have n2_ := Aside0.mk (blk_below (g := gb284) (o := .cells #[.int .i64 t281, .int .i64 t282] 25 (0, 0)) (kb BK284.out) hb)
              have n3_ := Aside0.mk (blk_below (g := gb288) (o := .cells #[.int .i64 t285, .int .i64 t286] 25 (0, 0)) (kb BK288.out) hb)
              have n4_ := Aside0.mk (below_step (lb4 HB.out GE276.out GE280.out GE284.out GE288.out) hb)
              have n5_ := Aside0.mk (hbox)
              have n6_ := Aside0.mk ((by rw [hg]; exact (below_size (lb4 HB.out GE276.out GE280.out GE284.out GE288.out)) : w.heap.size ≤ gb292))
              have n7_ := Aside0.mk ((by rw [hg]; exact (below_size (lb4 HB.out GE276.out GE280.out GE284.out GE288.out)) : w.heap.size ≤ gb292))
              have n8_ := Aside0.mk ((by rw [hg]; exact Nat.ne_of_lt (blk_lt (g := gb276) (o := .cells #[.int .i64 t273, .int .i64 t274] 25 (0, 0)) (kb BK276.out)) : gb276 ≠ gb292))
              have n9_ := Aside0.mk ((by rw [hg]; exact Nat.ne_of_gt (blk_lt (g := gb276) (o := .cells #[.int .i64 t273, .int .i64 t274] 25 (0, 0)) (kb BK276.out)) : gb292 ≠ gb276))
              have n10_ := Aside0.mk ((by rw [hg]; exact Nat.ne_of_lt (blk_lt (g := gb280) (o := .cells #[.int .i64 t277, .int .i64 t278] 25 (0, 0)) (kb BK280.out)) : gb280 ≠ gb292))
              have n11_ := Aside0.mk ((by rw [hg]; exact Nat.ne_of_gt (blk_lt (g := gb280) (o := .cells #[.int .i64 t277, .int .i64 t278] 25 (0, 0)) (kb BK280.out)) : gb292 ≠ gb280))
              have n12_ := Aside0.mk ((by rw [hg]; exact Nat.ne_of_lt (blk_lt (g := gb284) (o := .cells #[.int .i64 t281, .int .i64 t282] 25 (0, 0)) (kb BK284.out)) : gb284 ≠ gb292))
              have n13_ := Aside0.mk ((by rw [hg]; exact Nat.ne_of_gt (blk_lt (g := gb284) (o := .cells #[.int .i64 t281, .int .i64 t282] 25 (0, 0)) (kb BK284.out)) : gb292 ≠ gb284))
              have n14_ := Aside0.mk ((by rw [hg]; exact Nat.ne_of_lt (blk_lt (g := gb288) (o := .cells #[.int .i64 t285, .int .i64 t286] 25 (0, 0)) (kb BK288.out)) : gb288 ≠ gb292))
              have n15_ := Aside0.mk ((by rw [hg]; exact Nat.ne_of_gt (blk_lt (g := gb288) (o := .cells #[.int .i64 t285, .int .i64 t286] 25 (0, 0)) (kb BK288.out)) : gb292 ≠ gb288))
              clear BK276
              clear BK280
              clear BK284
              clear BK288
              clear HB
              have BK276 := n0_
              have BK280 := n1_
              have BK284 := n2_
              have BK288 := n3_
              have HB := n4_
              have BK292 := n5_
              have GW292 := n6_
              have GE292 := n7_
              have NB276_292 := n8_
              have NB292_276 := n9_
              have NB280_292 := n10_
              have NB292_280 := n11_
              have NB284_292 := n12_
              have NB292_284 := n13_
              have NB288_292 := n14_
              have NB292_288 := n15_
              clear n0_ n1_ n2_ n3_ n4_ n5_ n6_ n7_ n8_ n9_ n10_ n11_ n12_ n13_ n14_ n15_
              clear hb hbox hg
              refine hK.out _ _ ⟨(blk_cell BK288.out 0).trans rfl, (blk_cell BK288.out 1).trans rfl⟩ (fun hHeld => ?_)
              clear hK K
              refine norm_ (a' := ?_) ?_ ?_
              rotate_left
              ·
               show Act.put _ (some 12) _ = _
               simp only [Act.put, List.setIfInBounds_toArray, List.set_cons_zero, List.set_cons_succ, i64_w, i32_w]
               rfl
              exact norm_ (by simp only [putAll, Act.put, List.setIfInBounds_toArray, List.set_cons_zero, List.set_cons_succ]) (hCont (gb292) _ ⟨hHeld, (kb BK276.out), (kb BK280.out), (kb BK284.out), (kb BK288.out), (kb BK292.out), GW292.out, GE292.out, NB276_292.out, NB292_276.out, NB280_292.out, NB292_280.out, NB284_292.out, NB292_284.out, NB288_292.out, NB292_288.out, (lb5 HB.out GE276.out GE280.out GE284.out GE288.out GE292.out)⟩)
             ·
              skip
              refine box_step ?hg (N := 12) ?hd (cs := #[.int .i64 0, .int .i64 0]) (t := 25) ?hr ?_; (case hd => rfl); (case hg => rfl); (case hr => first | (go_simp; done) | (go_simp; rfl))
              intro gb292 hg w53 hbox hb
              have n0_ := Aside0.mk (blk_below (g := gb276) (o := .cells #[.int .i64 t273, .int .i64 t274] 25 (0, 0)) (kb BK276.out) hb)
              have n1_ := Aside0.mk (blk_below (g := gb280) (o := .cells #[.int .i64 t277, .int .i64 t278] 25 (0, 0)) (kb BK280.out) hb)
              have n2_ := Aside0.mk (blk_below (g := gb284) (o := .cells #[.int .i64 t281, .int .i64 t282] 25 (0, 0)) (kb BK284.out) hb)
              have n3_ := Aside0.mk (blk_below (g := gb288) (o := .cells #[.int .i64 t285, .int .i64 t286] 25 (0, 0)) (kb BK288.out) hb)
              have n4_ := Aside0.mk (below_step (lb4 HB.out GE276.out GE280.out GE284.out GE288.out) hb)
              have n5_ := Aside0.mk (hbox)
              have n6_ := Aside0.mk ((by rw [hg]; exact (below_size (lb4 HB.out GE276.out GE280.out GE284.out GE288.out)) : w.heap.size ≤ gb292))
              have n7_ := Aside0.mk ((by rw [hg]; exact (below_size (lb4 HB.out GE276.out GE280.out GE284.out GE288.out)) : w.heap.size ≤ gb292))
              have n8_ := Aside0.mk ((by rw [hg]; exact Nat.ne_of_lt (blk_lt (g := gb276) (o := .cells #[.int .i64 t273, .int .i64 t274] 25 (0, 0)) (kb BK276.out)) : gb276 ≠ gb292))
              have n9_ := Aside0.mk ((by rw [hg]; exact Nat.ne_of_gt (blk_lt (g := gb276) (o := .cells #[.int .i64 t273, .int .i64 t274] 25 (0, 0)) (kb BK276.out)) : gb292 ≠ gb276))
              have n10_ := Aside0.mk ((by rw [hg]; exact Nat.ne_of_lt (blk_lt (g := gb280) (o := .cells #[.int .i64 t277, .int .i64 t278] 25 (0, 0)) (kb BK280.out)) : gb280 ≠ gb292))
              have n11_ := Aside0.mk ((by rw [hg]; exact Nat.ne_of_gt (blk_lt (g := gb280) (o := .cells #[.int .i64 t277, .int .i64 t278] 25 (0, 0)) (kb BK280.out)) : gb292 ≠ gb280))
              have n12_ := Aside0.mk ((by rw [hg]; exact Nat.ne_of_lt (blk_lt (g := gb284) (o := .cells #[.int .i64 t281, .int .i64 t282] 25 (0, 0)) (kb BK284.out)) : gb284 ≠ gb292))
              have n13_ := Aside0.mk ((by rw [hg]; exact Nat.ne_of_gt (blk_lt (g := gb284) (o := .cells #[.int .i64 t281, .int .i64 t282] 25 (0, 0)) (kb BK284.out)) : gb292 ≠ gb284))
              have n14_ := Aside0.mk ((by rw [hg]; exact Nat.ne_of_lt (blk_lt (g := gb288) (o := .cells #[.int .i64 t285, .int .i64 t286] 25 (0, 0)) (kb BK288.out)) : gb288 ≠ gb292))
              have n15_ := Aside0.mk ((by rw [hg]; exact Nat.ne_of_gt (blk_lt (g := gb288) (o := .cells #[.int .i64 t285, .int .i64 t286] 25 (0, 0)) (kb BK288.out)) : gb292 ≠ gb288))
              clear BK276
              clear BK280
              clear BK284
              clear BK288
              clear HB
              have BK276 := n0_
              have BK280 := n1_
              have BK284 := n2_
              have BK288 := n3_
              have HB := n4_
              have BK292 := n5_
              have GW292 := n6_
              have GE292 := n7_
              have NB276_292 := n8_
              have NB292_276 := n9_
              have NB280_292 := n10_
              have NB292_280 := n11_
              have NB284_292 := n12_
              have NB292_284 := n13_
              have NB288_292 := n14_
              have NB292_288 := n15_
              clear n0_ n1_ n2_ n3_ n4_ n5_ n6_ n7_ n8_ n9_ n10_ n11_ n12_ n13_ n14_ n15_
              clear hb hbox hg
              refine hK.out _ _ ⟨(blk_cell BK288.out 0).trans rfl, (blk_cell BK288.out 1).trans rfl⟩ (fun hHeld => ?_)
              clear hK K
              refine norm_ (a' := ?_) ?_ ?_
              rotate_left
              ·
               show Act.put _ (some 12) _ = _
               simp only [Act.put, List.setIfInBounds_toArray, List.set_cons_zero, List.set_cons_succ, i64_w, i32_w]
               rfl
              refine one_ (i := 4) (N := some 68) #[true, true, true, true, true, false, false, false, true, false, false] rfl rfl (one_of HT_.out (by kernel_rfl)) (by decide) (fun K hK => ?_)
              refine goes_ Tryd.func22 (by kernel_rfl) rfl #[.agg #[.int .i64 t285, .int .i64 t286], .string (t275.extract ((ji33) : Int).toNat t275.size)] (by rfl) rfl rfl (by (try simp only [List.map_toArray, List.map_cons, List.map_nil]); first | done | (simp only [hji33]; rfl) | rfl | (simp only [List.length_drop, List.length_take]; rfl)) ?_
              with_reducible refine (impl_LongFrom.calls kj5 t285 t286 (t275.extract ((ji33) : Int).toNat t275.size) t289 t290 true _ A39.out).mono ?_
              rintro e w54 ⟨rfl, hb⟩
              refine ⟨_, rfl, ?_⟩
              have n0_ := Aside0.mk (blk_below (g := gb276) (o := .cells #[.int .i64 t273, .int .i64 t274] 25 (0, 0)) (kb BK276.out) hb)
              have n1_ := Aside0.mk (blk_below (g := gb280) (o := .cells #[.int .i64 t277, .int .i64 t278] 25 (0, 0)) (kb BK280.out) hb)
              have n2_ := Aside0.mk (blk_below (g := gb284) (o := .cells #[.int .i64 t281, .int .i64 t282] 25 (0, 0)) (kb BK284.out) hb)
              have n3_ := Aside0.mk (blk_below (g := gb288) (o := .cells #[.int .i64 t285, .int .i64 t286] 25 (0, 0)) (kb BK288.out) hb)
              have n4_ := Aside0.mk (blk_below (g := gb292) (o := .cells #[.int .i64 0, .int .i64 0] 25 (0, 0)) (kb BK292.out) hb)
              have n5_ := Aside0.mk (below_step (lb5 HB.out GE276.out GE280.out GE284.out GE288.out GE292.out) hb)
              clear BK276
              clear BK280
              clear BK284
              clear BK288
              clear BK292
              clear HB
              have BK276 := n0_
              have BK280 := n1_
              have BK284 := n2_
              have BK288 := n3_
              have BK292 := n4_
              have HB := n5_
              clear n0_ n1_ n2_ n3_ n4_ n5_
              (try clear hb)
              (try clear hb2)
              (try clear hk)
              (try clear hi)
              refine hK.out _ _ ⟨(blk_cell BK288.out 0).trans rfl, (blk_cell BK288.out 1).trans rfl⟩ (fun hHeld => ?_)
              clear hK K
              refine norm_ (a' := ?_) ?_ ?_
              rotate_left
              ·
               show Act.put _ (some 68) _ = _
               simp only [Act.put, List.setIfInBounds_toArray, List.set_cons_zero, List.set_cons_succ, i64_w, i32_w]
               rfl
              refine pure_ (i := 5) (N := some 63) (v := ?_) (a' := ?_) #[true, true, true, true, true, true, false, false, true, false, false] rfl rfl (any_of HT_.out (by kernel_rfl)) (fun _ _ _ h => h) (Or.inl ⟨by rfl, ?_⟩) ?_ ?_
              rotate_left
              ·
               intro w'
               go_simp
               with_reducible rfl
              rotate_left
              ·
               simp only [Act.put, List.setIfInBounds_toArray, List.set_cons_zero, List.set_cons_succ, i64_w, i32_w]
               rfl
              refine pure_ (i := 6) (N := some 69) (v := ?_) (a' := ?_) #[true, true, true, true, true, true, true, false, true, false, false] rfl rfl (any_of HT_.out (by kernel_rfl)) (fun _ _ _ h => h) (Or.inl ⟨by rfl, ?_⟩) ?_ ?_
              rotate_left
              ·
               intro w'
               go_simp
               with_reducible rfl
              rotate_left
              ·
               simp only [Act.put, List.setIfInBounds_toArray, List.set_cons_zero, List.set_cons_succ, i64_w, i32_w]
               rfl
              refine pure_ (i := 7) (N := some 70) (v := ?_) (a' := ?_) #[true, true, true, true, true, true, true, true, true, false, false] rfl rfl (any_of HT_.out (by kernel_rfl)) (fun _ _ _ h => h) (Or.inl ⟨by rfl, ?_⟩) ?_ ?_
              rotate_left
              ·
               intro w'
               go_simp
               with_reducible rfl
              rotate_left
              ·
               simp only [Act.put, List.setIfInBounds_toArray, List.set_cons_zero, List.set_cons_succ, i64_w, i32_w]
               rfl
              exact norm_ (by simp only [putAll, Act.put, List.setIfInBounds_toArray, List.set_cons_zero, List.set_cons_succ]) (hCont (gb292) _ ⟨hHeld, (kb BK276.out), (kb BK280.out), (kb BK284.out), (kb BK288.out), (kb BK292.out), GW292.out, GE292.out, NB276_292.out, NB292_276.out, NB280_292.out, NB292_280.out, NB284_292.out, NB292_284.out, NB288_292.out, NB292_288.out, (lb5 HB.out GE276.out GE280.out GE284.out GE288.out GE292.out)⟩)
            rintro gb292 w55 ⟨hS_, h0_, h1_, h2_, h3_, h4_, h5_, h6_, h7_, h8_, h9_, h10_, h11_, h12_, h13_, h14_, h15_⟩
            have n0_ : Aside0 (w55.heap[gb276]? = some (.cells #[.int .i64 t273, .int .i64 t274] 25 (0, 0))) := ⟨h0_⟩
            have n1_ : Aside0 (w55.heap[gb280]? = some (.cells #[.int .i64 t277, .int .i64 t278] 25 (0, 0))) := ⟨h1_⟩
            have n2_ : Aside0 (w55.heap[gb284]? = some (.cells #[.int .i64 t281, .int .i64 t282] 25 (0, 0))) := ⟨h2_⟩
            have n3_ : Aside0 (w55.heap[gb288]? = some (.cells #[.int .i64 t285, .int .i64 t286] 25 (0, 0))) := ⟨h3_⟩
            have n4_ : Aside0 (w55.heap[gb292]? = some (.cells #[.int .i64 0, .int .i64 0] 25 (0, 0))) := ⟨h4_⟩
            have n5_ : Aside0 (w.heap.size ≤ gb292) := ⟨h5_⟩
            have n6_ : Aside0 (w.heap.size ≤ gb292) := ⟨h6_⟩
            have n7_ : Aside0 (gb276 ≠ gb292) := ⟨h7_⟩
            have n8_ : Aside0 (gb292 ≠ gb276) := ⟨h8_⟩
            have n9_ : Aside0 (gb280 ≠ gb292) := ⟨h9_⟩
            have n10_ : Aside0 (gb292 ≠ gb280) := ⟨h10_⟩
            have n11_ : Aside0 (gb284 ≠ gb292) := ⟨h11_⟩
            have n12_ : Aside0 (gb292 ≠ gb284) := ⟨h12_⟩
            have n13_ : Aside0 (gb288 ≠ gb292) := ⟨h13_⟩
            have n14_ : Aside0 (gb292 ≠ gb288) := ⟨h14_⟩
            have n15_ : Aside0 (Below w.heap.size w w55) := ⟨h15_⟩
            clear BK276
            clear BK280
            clear BK284
            clear BK288
            clear HB
            clear h0_ h1_ h2_ h3_ h4_ h5_ h6_ h7_ h8_ h9_ h10_ h11_ h12_ h13_ h14_ h15_
            have BK276 := n0_
            have BK280 := n1_
            have BK284 := n2_
            have BK288 := n3_
            have BK292 := n4_
            have GW292 := n5_
            have GE292 := n6_
            have NB276_292 := n7_
            have NB292_276 := n8_
            have NB280_292 := n9_
            have NB292_280 := n10_
            have NB284_292 := n11_
            have NB292_284 := n12_
            have NB288_292 := n13_
            have NB292_288 := n14_
            have HB := n15_
            clear n0_ n1_ n2_ n3_ n4_ n5_ n6_ n7_ n8_ n9_ n10_ n11_ n12_ n13_ n14_ n15_
            have hHeld : w55.cell? ⟨gb288, 0, none⟩ = some (.int .i64 t285) ∧ w55.cell? ⟨gb288, 1, none⟩ = some (.int .i64 t286) := hS_
            refine norm_ (a' := ?_) ?_ ?_
            rotate_left
            ·
             simp only [putAll, Act.put, List.setIfInBounds_toArray, List.set_cons_zero, List.set_cons_succ]
             rfl
            refine one_ (i := 9) (N := none) #[true, true, true, true, true, true, true, true, true, true, false] rfl rfl (one_of HT_.out (by kernel_rfl)) (by decide) (fun K hK => ?_)
            have hs56 : w55.cell? ⟨gb292, 0, none⟩ = some (.int .i64 0) := (blk_cell BK292.out 0).trans rfl
            have hfs56 := blk_frozen BK292.out 0
            have hns56_0 := NB276_292.out
            have hns56_1 := NB280_292.out
            have hns56_2 := NB284_292.out
            have hns56_3 := NB288_292.out
            have hms56_0 := NB292_276.out
            have hms56_1 := NB292_280.out
            have hms56_2 := NB292_284.out
            have hms56_3 := NB292_288.out
            have hs57 : w55.cell? ⟨gb292, 1, none⟩ = some (.int .i64 0) := (blk_cell BK292.out 1).trans rfl
            have hfs57 := blk_frozen BK292.out 1
            have hns57_0 := NB276_292.out
            have hns57_1 := NB280_292.out
            have hns57_2 := NB284_292.out
            have hns57_3 := NB288_292.out
            have hms57_0 := NB292_276.out
            have hms57_1 := NB292_280.out
            have hms57_2 := NB292_284.out
            have hms57_3 := NB292_288.out
            refine skip_ (w1 := ?_) (by rfl) rfl ?_ ?_
            rotate_left
            ·
             go_simp
             rfl
            refine hK.out _ _ ⟨((cell_far (p := ⟨gb292, _, none⟩) NB288_292.out _).trans (((cell_far (p := ⟨gb292, _, none⟩) NB288_292.out _).trans (hHeld.1)))), ((cell_far (p := ⟨gb292, _, none⟩) NB288_292.out _).trans (((cell_far (p := ⟨gb292, _, none⟩) NB288_292.out _).trans (hHeld.2))))⟩ (fun hHeld => ?_)
            clear hK K
            refine pure_ (i := 10) (N := some 13) (v := ?_) (a' := ?_) #[true, true, true, true, true, true, true, true, true, true, true] rfl rfl (any_of HT_.out (by kernel_rfl)) (fun _ _ _ h => h) (Or.inl ⟨by rfl, ?_⟩) ?_ ?_
            rotate_left
            ·
             intro w'
             go_simp
             with_reducible rfl
            rotate_left
            ·
             simp only [Act.put, List.setIfInBounds_toArray, List.set_cons_zero, List.set_cons_succ, i64_w, i32_w]
             rfl
            refine done_ (done_of HT_.out (by kernel_rfl)) ?_
            have hnb58 := NB276_280.out
            have hnc58 := NB280_276.out
            have hnb59 := NB276_284.out
            have hnc59 := NB284_276.out
            have hnb60 := NB276_288.out
            have hnc60 := NB288_276.out
            have hnb61 := NB276_292.out
            have hnc61 := NB292_276.out
            have hcz62_0 : w55.cell? ⟨gb276, 0, none⟩ = some (.int .i64 t273) := (blk_cell BK276.out 0).trans rfl
            have hcz62_1 : w55.cell? ⟨gb276, 1, none⟩ = some (.int .i64 t274) := (blk_cell BK276.out 1).trans rfl
            have hfz62_0 := blk_frozen BK276.out 0
            have hfz62_1 := blk_frozen BK276.out 1
            try go_wp2_with (first | ((with_reducible refine gate_callee (f := 19) rfl ?_); refine goesL_ (some 74) rfl rfl Tryd.func19 (by kernel_rfl) rfl #[.agg #[.int .i64 t273, .int .i64 t274], .string t275] rfl (by (try simp only [List.map_toArray, List.map_cons, List.map_nil]); first | done | rfl | (simp only [List.length_drop, List.length_take]; rfl)) ?_; (with_reducible refine (impl_DancedFrom.calls kj5 t273 t274 t275 t293 t294 t295 _ A40.out).mono ?_); rintro e w63 ⟨rfl, hb⟩; refine ⟨_, rfl, ?_⟩; have n0_ := Aside0.mk (blk_below (g := gb276) (o := .cells #[.int .i64 t273, .int .i64 t274] 25 (0, 0)) (kf1 BK276.out NB276_292.out) hb); have n1_ := Aside0.mk (blk_below (g := gb280) (o := .cells #[.int .i64 t277, .int .i64 t278] 25 (0, 0)) (kf1 BK280.out NB280_292.out) hb); have n2_ := Aside0.mk (blk_below (g := gb284) (o := .cells #[.int .i64 t281, .int .i64 t282] 25 (0, 0)) (kf1 BK284.out NB284_292.out) hb); have n3_ := Aside0.mk (blk_below (g := gb288) (o := .cells #[.int .i64 t285, .int .i64 t286] 25 (0, 0)) (kf1 BK288.out NB288_292.out) hb); have n4_ := Aside0.mk (blk_below (g := gb292) (o := .cells #[.int .i64 t289, .int .i64 t290] 25 (0, 0)) (by (with_reducible repeat (first | refine blk_drewN ?_ _ | refine blk_drew ?_ | refine blk_alloc ?_ _)); refine blk_put (cs := #[.int .i64 t289, .int .i64 0]) ?_ 1 _ rfl; (with_reducible repeat (first | refine blk_drewN ?_ _ | refine blk_drew ?_ | refine blk_alloc ?_ _)); refine blk_put (cs := #[.int .i64 0, .int .i64 0]) ?_ 0 _ rfl; (with_reducible repeat (first | refine blk_drewN ?_ _ | refine blk_drew ?_ | refine blk_alloc ?_ _)); exact BK292.out) hb); have n5_ := Aside0.mk (below_step (lb5 HB.out GE276.out GE280.out GE284.out GE288.out GE292.out) hb); clear BK276; clear BK280; clear BK284; clear BK288; clear BK292; clear HB; have BK276 := n0_; have BK280 := n1_; have BK284 := n2_; have BK288 := n3_; have BK292 := n4_; have HB := n5_; clear n0_ n1_ n2_ n3_ n4_ n5_; (try clear hb); (try clear hb2); (try clear hk); (try clear hi)) | ((with_reducible refine gate_dst (N := 14) rfl ?_); (try (refine gate_guard (by rfl) ?_; dsimp only)); refine box_event ?hg (N := 14) ?hd (cs := #[.int .i64 0, .int .i64 0]) (t := 25) ?hr ?_; (case hd => rfl); (case hg => rfl); (case hr => first | (go_simp; done) | (go_simp; rfl)); intro gb296 hg w64 hbox hb; have n0_ := Aside0.mk (blk_below (g := gb276) (o := .cells #[.int .i64 t273, .int .i64 t274] 25 (0, 0)) (kb BK276.out) hb); have n1_ := Aside0.mk (blk_below (g := gb280) (o := .cells #[.int .i64 t277, .int .i64 t278] 25 (0, 0)) (kb BK280.out) hb); have n2_ := Aside0.mk (blk_below (g := gb284) (o := .cells #[.int .i64 t281, .int .i64 t282] 25 (0, 0)) (kb BK284.out) hb); have n3_ := Aside0.mk (blk_below (g := gb288) (o := .cells #[.int .i64 t285, .int .i64 t286] 25 (0, 0)) (kb BK288.out) hb); have n4_ := Aside0.mk (blk_below (g := gb292) (o := .cells #[.int .i64 t289, .int .i64 t290] 25 (0, 0)) (kb BK292.out) hb); have n5_ := Aside0.mk (below_step (lb5 HB.out GE276.out GE280.out GE284.out GE288.out GE292.out) hb); have n6_ := Aside0.mk (hbox); have n7_ := Aside0.mk ((by rw [hg]; exact (below_size (lb5 HB.out GE276.out GE280.out GE284.out GE288.out GE292.out)) : w.heap.size ≤ gb296)); have n8_ := Aside0.mk ((by rw [hg]; exact (below_size (lb5 HB.out GE276.out GE280.out GE284.out GE288.out GE292.out)) : w.heap.size ≤ gb296)); have n9_ := Aside0.mk ((by rw [hg]; exact Nat.ne_of_lt (blk_lt (g := gb276) (o := .cells #[.int .i64 t273, .int .i64 t274] 25 (0, 0)) (kb BK276.out)) : gb276 ≠ gb296)); have n10_ := Aside0.mk ((by rw [hg]; exact Nat.ne_of_gt (blk_lt (g := gb276) (o := .cells #[.int .i64 t273, .int .i64 t274] 25 (0, 0)) (kb BK276.out)) : gb296 ≠ gb276)); have n11_ := Aside0.mk ((by rw [hg]; exact Nat.ne_of_lt (blk_lt (g := gb280) (o := .cells #[.int .i64 t277, .int .i64 t278] 25 (0, 0)) (kb BK280.out)) : gb280 ≠ gb296)); have n12_ := Aside0.mk ((by rw [hg]; exact Nat.ne_of_gt (blk_lt (g := gb280) (o := .cells #[.int .i64 t277, .int .i64 t278] 25 (0, 0)) (kb BK280.out)) : gb296 ≠ gb280)); have n13_ := Aside0.mk ((by rw [hg]; exact Nat.ne_of_lt (blk_lt (g := gb284) (o := .cells #[.int .i64 t281, .int .i64 t282] 25 (0, 0)) (kb BK284.out)) : gb284 ≠ gb296)); have n14_ := Aside0.mk ((by rw [hg]; exact Nat.ne_of_gt (blk_lt (g := gb284) (o := .cells #[.int .i64 t281, .int .i64 t282] 25 (0, 0)) (kb BK284.out)) : gb296 ≠ gb284)); have n15_ := Aside0.mk ((by rw [hg]; exact Nat.ne_of_lt (blk_lt (g := gb288) (o := .cells #[.int .i64 t285, .int .i64 t286] 25 (0, 0)) (kb BK288.out)) : gb288 ≠ gb296)); have n16_ := Aside0.mk ((by rw [hg]; exact Nat.ne_of_gt (blk_lt (g := gb288) (o := .cells #[.int .i64 t285, .int .i64 t286] 25 (0, 0)) (kb BK288.out)) : gb296 ≠ gb288)); have n17_ := Aside0.mk ((by rw [hg]; exact Nat.ne_of_lt (blk_lt (g := gb292) (o := .cells #[.int .i64 t289, .int .i64 t290] 25 (0, 0)) (kb BK292.out)) : gb292 ≠ gb296)); have n18_ := Aside0.mk ((by rw [hg]; exact Nat.ne_of_gt (blk_lt (g := gb292) (o := .cells #[.int .i64 t289, .int .i64 t290] 25 (0, 0)) (kb BK292.out)) : gb296 ≠ gb292)); clear BK276; clear BK280; clear BK284; clear BK288; clear BK292; clear HB; have BK276 := n0_; have BK280 := n1_; have BK284 := n2_; have BK288 := n3_; have BK292 := n4_; have HB := n5_; have BK296 := n6_; have GW296 := n7_; have GE296 := n8_; have NB276_296 := n9_; have NB296_276 := n10_; have NB280_296 := n11_; have NB296_280 := n12_; have NB284_296 := n13_; have NB296_284 := n14_; have NB288_296 := n15_; have NB296_288 := n16_; have NB292_296 := n17_; have NB296_292 := n18_; clear n0_ n1_ n2_ n3_ n4_ n5_ n6_ n7_ n8_ n9_ n10_ n11_ n12_ n13_ n14_ n15_ n16_ n17_ n18_; clear hb hbox hg; have hnb65 := NB296_276.out; have hnc65 := NB276_296.out; have hnb66 := NB296_280.out; have hnc66 := NB280_296.out; have hnb67 := NB296_284.out; have hnc67 := NB284_296.out; have hnb68 := NB296_288.out; have hnc68 := NB288_296.out; have hnb69 := NB296_292.out; have hnc69 := NB292_296.out; have hcz70_0 : w64.cell? ⟨gb296, 0, none⟩ = some (.int .i64 0) := (blk_cell BK296.out 0).trans rfl; have hcz70_1 : w64.cell? ⟨gb296, 1, none⟩ = some (.int .i64 0) := (blk_cell BK296.out 1).trans rfl; have hfz70_0 := blk_frozen BK296.out 0; have hfz70_1 := blk_frozen BK296.out 1; have hnb71 := NB292_280.out; have hnc71 := NB280_292.out; have hnb72 := NB292_284.out; have hnc72 := NB284_292.out; have hnb73 := NB292_288.out; have hnc73 := NB288_292.out; have hcz74_0 : w64.cell? ⟨gb292, 0, none⟩ = some (.int .i64 t289) := (blk_cell BK292.out 0).trans rfl; have hcz74_1 : w64.cell? ⟨gb292, 1, none⟩ = some (.int .i64 t290) := (blk_cell BK292.out 1).trans rfl; have hfz74_0 := blk_frozen BK292.out 0; have hfz74_1 := blk_frozen BK292.out 1; have hnb75 := NB280_284.out; have hnc75 := NB284_280.out; have hnb76 := NB280_288.out; have hnc76 := NB288_280.out; have hcz77_0 : w64.cell? ⟨gb280, 0, none⟩ = some (.int .i64 t277) := (blk_cell BK280.out 0).trans rfl; have hcz77_1 : w64.cell? ⟨gb280, 1, none⟩ = some (.int .i64 t278) := (blk_cell BK280.out 1).trans rfl; have hfz77_0 := blk_frozen BK280.out 0; have hfz77_1 := blk_frozen BK280.out 1))
            go_ret
            exact ⟨by first | rfl | (simp [errW_none, errW_some] <;> rfl) | (simp only [← hji33]; first | rfl | (simp [errW_none, errW_some] <;> rfl)) | (simp [*, errW_none, errW_some] <;> rfl), by repeat (first | (with_reducible first | exact HB.out | apply below_alloc | apply pw_below_drewN | apply below_drew1 | refine below_set ?_ GE276.out | refine below_set ?_ GE280.out | refine below_set ?_ GE284.out | refine below_set ?_ GE288.out | refine below_set ?_ GE292.out | refine below_set ?_ GE296.out) | exact HB.out)⟩
           ·
            rw [if_neg c44] at H
            have c44b0 : decide (40 < (t275.size : Int)) = false := decide_eq_false c44
            have c44b1 : decide (40 < t275.size) = false := decide_eq_false (by omega)
            clear c44
            by_cases c78 : t295 = true
            ·
             subst c78
             have H1 : (some (t293 == t277 && (t294 == t278))) = some r := by rw [if_pos rfl] at H; exact H
             clear H
             have H := H1
             clear H1
             obtain rfl := Option.some.inj H
             try go_wp2
             have n0_ := Aside0.mk (blk_drew BK276.out)
             have n1_ := Aside0.mk (blk_drew BK280.out)
             have n2_ := Aside0.mk (blk_drew BK284.out)
             have n3_ := Aside0.mk (below_drew1 HB.out)
             clear BK276
             clear BK280
             clear BK284
             clear HB
             have BK276 := n0_
             have BK280 := n1_
             have BK284 := n2_
             have HB := n3_
             clear n0_ n1_ n2_ n3_
             refine start_ (n := 11) (S := fun w' => w'.cell? ⟨gb276, 0, none⟩ = some (.int .i64 t273) ∧ w'.cell? ⟨gb276, 1, none⟩ = some (.int .i64 t274)) (ds := []) #[false, false, false, false, false, false, false, false, false, false, false] (by kernel_rfl) rfl rfl ⟨(blk_cell BK276.out 0).trans rfl, (blk_cell BK276.out 1).trans rfl⟩ (fun hHeld => ?_); refine with_tabW laws_FnLongFrom.tab11 laws_FnLongFrom.bits11 (fun HT_ HW_ => ?_)
             generalize wc.drew = w79 at BK276 BK280 BK284 HB hHeld ⊢
             refine pure_ (i := 1) (N := some 57) (v := ?_) (a' := ?_) #[false, true, false, false, false, false, false, false, false, false, false] rfl rfl (any_of HT_.out (by kernel_rfl)) (fun _ _ _ h => h) (Or.inl ⟨by rfl, ?_⟩) ?_ ?_
             rotate_left
             ·
              intro w'
              go_simp
              with_reducible rfl
             rotate_left
             ·
              simp only [Act.put, List.setIfInBounds_toArray, List.set_cons_zero, List.set_cons_succ, i64_w, i32_w]
              rfl
             refine pure_ (i := 2) (N := some 58) (v := ?_) (a' := ?_) #[false, true, true, false, false, false, false, false, false, false, false] rfl rfl (any_of HT_.out (by kernel_rfl)) (fun _ _ _ h => h) (Or.inl ⟨by rfl, ?_⟩) ?_ ?_
             rotate_left
             ·
              intro w'
              go_simp
              with_reducible rfl
             rotate_left
             ·
              simp only [Act.put, List.setIfInBounds_toArray, List.set_cons_zero, List.set_cons_succ, i64_w, i32_w]
              rfl
             refine pure_ (i := 3) (N := some 59) (v := ?_) (a' := ?_) #[false, true, true, true, false, false, false, false, false, false, false] rfl rfl (any_of HT_.out (by kernel_rfl)) (fun _ _ _ h => h) (Or.inl ⟨by rfl, ?_⟩) ?_ ?_
             rotate_left
             ·
              intro w'
              go_simp
              with_reducible rfl
             rotate_left
             ·
              simp only [Act.put, List.setIfInBounds_toArray, List.set_cons_zero, List.set_cons_succ, i64_w, i32_w]
              rfl
             refine take_ (i := 0) (N := some 56) (v := ?_) (a' := ?_) #[true, true, true, true, false, false, false, false, false, false, false] rfl rfl (take_ofW HT_.out HW_.out (by kernel_rfl)) (fun _ _ _ h => h) (Or.inl ⟨by rfl, ?_⟩) hHeld ?_ ?_
             rotate_left
             ·
              rintro w' ⟨s0, s1⟩
              go_simp
              with_reducible rfl
             rotate_left
             ·
              simp only [Act.put, List.setIfInBounds_toArray, List.set_cons_zero, List.set_cons_succ, i64_w, i32_w]
              rfl
             refine join_ (σ := Nat) 2 #[true, true, true, true, true, true, true, true, true, false, false] (fun s_ => [(60, .tuple #[.agg #[.int .i64 t285, .int .i64 t286], .bool true]), (10, .pointer (some ⟨s_, 0, none⟩)), (55, .tuple #[.agg #[.int .i64 t285, .int .i64 t286], .bool true]), (61, .agg #[.int .i64 t285, .int .i64 t286]), (62, .bool true)]) (fun s_ w' => (w'.cell? ⟨gb276, 0, none⟩ = some (.int .i64 t273) ∧ w'.cell? ⟨gb276, 1, none⟩ = some (.int .i64 t274)) ∧ (w'.heap[gb276]? = some (.cells #[.int .i64 t273, .int .i64 t274] 25 (0, 0))) ∧ (w'.heap[gb280]? = some (.cells #[.int .i64 t277, .int .i64 t278] 25 (0, 0))) ∧ (w'.heap[gb284]? = some (.cells #[.int .i64 t281, .int .i64 t282] 25 (0, 0))) ∧ (w'.heap[s_]? = some (.cells #[.int .i64 0, .int .i64 0] 25 (0, 0))) ∧ (w.heap.size ≤ s_) ∧ (w.heap.size ≤ s_) ∧ (gb276 ≠ s_) ∧ (s_ ≠ gb276) ∧ (gb280 ≠ s_) ∧ (s_ ≠ gb280) ∧ (gb284 ≠ s_) ∧ (s_ ≠ gb284) ∧ (Below w.heap.size w w')) ?_ ?_
             rotate_left
             ·
              intro hCont
              refine two_ (i := 4) (j := 8) (Ni := some 60) (Nj := some 10) #[true, true, true, true, true, false, false, false, false, false, false] #[true, true, true, true, false, false, false, false, true, false, false] rfl rfl rfl rfl (two_of HT_.out (by kernel_rfl)) (by decide) (by decide) (fun K hK => ?_) (fun K hK => ?_)
              ·
               skip
               refine goes_ Tryd.func22 (by kernel_rfl) rfl #[.agg #[.int .i64 t273, .int .i64 t274], .string (t275.extract 0 ((ji33) : Int).toNat)] (by rfl) rfl rfl (by (try simp only [List.map_toArray, List.map_cons, List.map_nil]); first | done | (simp only [hji33]; rfl) | rfl | (simp only [List.length_drop, List.length_take]; rfl)) ?_
               with_reducible refine (impl_LongFrom.calls kj5 t273 t274 (t275.extract 0 ((ji33) : Int).toNat) t285 t286 true _ A36.out).mono ?_
               rintro e w80 ⟨rfl, hb⟩
               refine ⟨_, rfl, ?_⟩
               have n0_ := Aside0.mk (blk_below (g := gb276) (o := .cells #[.int .i64 t273, .int .i64 t274] 25 (0, 0)) (kb BK276.out) hb)
               have n1_ := Aside0.mk (blk_below (g := gb280) (o := .cells #[.int .i64 t277, .int .i64 t278] 25 (0, 0)) (kb BK280.out) hb)
               have n2_ := Aside0.mk (blk_below (g := gb284) (o := .cells #[.int .i64 t281, .int .i64 t282] 25 (0, 0)) (kb BK284.out) hb)
               have n3_ := Aside0.mk (below_step (lb3 HB.out GE276.out GE280.out GE284.out) hb)
               clear BK276
               clear BK280
               clear BK284
               clear HB
               have BK276 := n0_
               have BK280 := n1_
               have BK284 := n2_
               have HB := n3_
               clear n0_ n1_ n2_ n3_
               (try clear hb)
               (try clear hb2)
               (try clear hk)
               (try clear hi)
               refine hK.out _ _ ⟨(blk_cell BK276.out 0).trans rfl, (blk_cell BK276.out 1).trans rfl⟩ (fun hHeld => ?_)
               clear hK K
               refine norm_ (a' := ?_) ?_ ?_
               rotate_left
               ·
                show Act.put _ (some 60) _ = _
                simp only [Act.put, List.setIfInBounds_toArray, List.set_cons_zero, List.set_cons_succ, i64_w, i32_w]
                rfl
               refine pure_ (i := 5) (N := some 55) (v := ?_) (a' := ?_) #[true, true, true, true, true, true, false, false, false, false, false] rfl rfl (any_of HT_.out (by kernel_rfl)) (fun _ _ _ h => h) (Or.inl ⟨by rfl, ?_⟩) ?_ ?_
               rotate_left
               ·
                intro w'
                go_simp
                with_reducible rfl
               rotate_left
               ·
                simp only [Act.put, List.setIfInBounds_toArray, List.set_cons_zero, List.set_cons_succ, i64_w, i32_w]
                rfl
               refine pure_ (i := 6) (N := some 61) (v := ?_) (a' := ?_) #[true, true, true, true, true, true, true, false, false, false, false] rfl rfl (any_of HT_.out (by kernel_rfl)) (fun _ _ _ h => h) (Or.inl ⟨by rfl, ?_⟩) ?_ ?_
               rotate_left
               ·
                intro w'
                go_simp
                with_reducible rfl
               rotate_left
               ·
                simp only [Act.put, List.setIfInBounds_toArray, List.set_cons_zero, List.set_cons_succ, i64_w, i32_w]
                rfl
               refine pure_ (i := 7) (N := some 62) (v := ?_) (a' := ?_) #[true, true, true, true, true, true, true, true, false, false, false] rfl rfl (any_of HT_.out (by kernel_rfl)) (fun _ _ _ h => h) (Or.inl ⟨by rfl, ?_⟩) ?_ ?_
               rotate_left
               ·
                intro w'
                go_simp
                with_reducible rfl
               rotate_left
               ·
                simp only [Act.put, List.setIfInBounds_toArray, List.set_cons_zero, List.set_cons_succ, i64_w, i32_w]
                rfl
               refine one_ (i := 8) (N := some 10) #[true, true, true, true, true, true, true, true, true, false, false] rfl rfl (one_of HT_.out (by kernel_rfl)) (by decide) (fun K hK => ?_)
               refine box_step ?hg (N := 10) ?hd (cs := #[.int .i64 0, .int .i64 0]) (t := 25) ?hr ?_; (case hd => rfl); (case hg => rfl); (case hr => first | (go_simp; done) | (go_simp; rfl))
               intro gb288 hg w81 hbox hb
               have n0_ := Aside0.mk (blk_below (g := gb276) (o := .cells #[.int .i64 t273, .int .i64 t274] 25 (0, 0)) (kb BK276.out) hb)
               have n1_ := Aside0.mk (blk_below (g := gb280) (o := .cells #[.int .i64 t277, .int .i64 t278] 25 (0, 0)) (kb BK280.out) hb)
               have n2_ := Aside0.mk (blk_below (g := gb284) (o := .cells #[.int .i64 t281, .int .i64 t282] 25 (0, 0)) (kb BK284.out) hb)
               have n3_ := Aside0.mk (below_step (lb3 HB.out GE276.out GE280.out GE284.out) hb)
               have n4_ := Aside0.mk (hbox)
               have n5_ := Aside0.mk ((by rw [hg]; exact (below_size (lb3 HB.out GE276.out GE280.out GE284.out)) : w.heap.size ≤ gb288))
               have n6_ := Aside0.mk ((by rw [hg]; exact (below_size (lb3 HB.out GE276.out GE280.out GE284.out)) : w.heap.size ≤ gb288))
               have n7_ := Aside0.mk ((by rw [hg]; exact Nat.ne_of_lt (blk_lt (g := gb276) (o := .cells #[.int .i64 t273, .int .i64 t274] 25 (0, 0)) (kb BK276.out)) : gb276 ≠ gb288))
               have n8_ := Aside0.mk ((by rw [hg]; exact Nat.ne_of_gt (blk_lt (g := gb276) (o := .cells #[.int .i64 t273, .int .i64 t274] 25 (0, 0)) (kb BK276.out)) : gb288 ≠ gb276))
               have n9_ := Aside0.mk ((by rw [hg]; exact Nat.ne_of_lt (blk_lt (g := gb280) (o := .cells #[.int .i64 t277, .int .i64 t278] 25 (0, 0)) (kb BK280.out)) : gb280 ≠ gb288))
               have n10_ := Aside0.mk ((by rw [hg]; exact Nat.ne_of_gt (blk_lt (g := gb280) (o := .cells #[.int .i64 t277, .int .i64 t278] 25 (0, 0)) (kb BK280.out)) : gb288 ≠ gb280))
               have n11_ := Aside0.mk ((by rw [hg]; exact Nat.ne_of_lt (blk_lt (g := gb284) (o := .cells #[.int .i64 t281, .int .i64 t282] 25 (0, 0)) (kb BK284.out)) : gb284 ≠ gb288))
               have n12_ := Aside0.mk ((by rw [hg]; exact Nat.ne_of_gt (blk_lt (g := gb284) (o := .cells #[.int .i64 t281, .int .i64 t282] 25 (0, 0)) (kb BK284.out)) : gb288 ≠ gb284))
               clear BK276
               clear BK280
               clear BK284
               clear HB
               have BK276 := n0_
               have BK280 := n1_
               have BK284 := n2_
               have HB := n3_
               have BK288 := n4_
               have GW288 := n5_
               have GE288 := n6_
               have NB276_288 := n7_
               have NB288_276 := n8_
               have NB280_288 := n9_
               have NB288_280 := n10_
               have NB284_288 := n11_
               have NB288_284 := n12_
               clear n0_ n1_ n2_ n3_ n4_ n5_ n6_ n7_ n8_ n9_ n10_ n11_ n12_
               clear hb hbox hg
               refine hK.out _ _ ⟨(blk_cell BK276.out 0).trans rfl, (blk_cell BK276.out 1).trans rfl⟩ (fun hHeld => ?_)
               clear hK K
               refine norm_ (a' := ?_) ?_ ?_
               rotate_left
               ·
                show Act.put _ (some 10) _ = _
                simp only [Act.put, List.setIfInBounds_toArray, List.set_cons_zero, List.set_cons_succ, i64_w, i32_w]
                rfl
               exact norm_ (by simp only [putAll, Act.put, List.setIfInBounds_toArray, List.set_cons_zero, List.set_cons_succ]) (hCont (gb288) _ ⟨hHeld, (kb BK276.out), (kb BK280.out), (kb BK284.out), (kb BK288.out), GW288.out, GE288.out, NB276_288.out, NB288_276.out, NB280_288.out, NB288_280.out, NB284_288.out, NB288_284.out, (lb4 HB.out GE276.out GE280.out GE284.out GE288.out)⟩)
              ·
               skip
               refine box_step ?hg (N := 10) ?hd (cs := #[.int .i64 0, .int .i64 0]) (t := 25) ?hr ?_; (case hd => rfl); (case hg => rfl); (case hr => first | (go_simp; done) | (go_simp; rfl))
               intro gb288 hg w80 hbox hb
               have n0_ := Aside0.mk (blk_below (g := gb276) (o := .cells #[.int .i64 t273, .int .i64 t274] 25 (0, 0)) (kb BK276.out) hb)
               have n1_ := Aside0.mk (blk_below (g := gb280) (o := .cells #[.int .i64 t277, .int .i64 t278] 25 (0, 0)) (kb BK280.out) hb)
               have n2_ := Aside0.mk (blk_below (g := gb284) (o := .cells #[.int .i64 t281, .int .i64 t282] 25 (0, 0)) (kb BK284.out) hb)
               have n3_ := Aside0.mk (below_step (lb3 HB.out GE276.out GE280.out GE284.out) hb)
               have n4_ := Aside0.mk (hbox)
               have n5_ := Aside0.mk ((by rw [hg]; exact (below_size (lb3 HB.out GE276.out GE280.out GE284.out)) : w.heap.size ≤ gb288))
               have n6_ := Aside0.mk ((by rw [hg]; exact (below_size (lb3 HB.out GE276.out GE280.out GE284.out)) : w.heap.size ≤ gb288))
               have n7_ := Aside0.mk ((by rw [hg]; exact Nat.ne_of_lt (blk_lt (g := gb276) (o := .cells #[.int .i64 t273, .int .i64 t274] 25 (0, 0)) (kb BK276.out)) : gb276 ≠ gb288))
               have n8_ := Aside0.mk ((by rw [hg]; exact Nat.ne_of_gt (blk_lt (g := gb276) (o := .cells #[.int .i64 t273, .int .i64 t274] 25 (0, 0)) (kb BK276.out)) : gb288 ≠ gb276))
               have n9_ := Aside0.mk ((by rw [hg]; exact Nat.ne_of_lt (blk_lt (g := gb280) (o := .cells #[.int .i64 t277, .int .i64 t278] 25 (0, 0)) (kb BK280.out)) : gb280 ≠ gb288))
               have n10_ := Aside0.mk ((by rw [hg]; exact Nat.ne_of_gt (blk_lt (g := gb280) (o := .cells #[.int .i64 t277, .int .i64 t278] 25 (0, 0)) (kb BK280.out)) : gb288 ≠ gb280))
               have n11_ := Aside0.mk ((by rw [hg]; exact Nat.ne_of_lt (blk_lt (g := gb284) (o := .cells #[.int .i64 t281, .int .i64 t282] 25 (0, 0)) (kb BK284.out)) : gb284 ≠ gb288))
               have n12_ := Aside0.mk ((by rw [hg]; exact Nat.ne_of_gt (blk_lt (g := gb284) (o := .cells #[.int .i64 t281, .int .i64 t282] 25 (0, 0)) (kb BK284.out)) : gb288 ≠ gb284))
               clear BK276
               clear BK280
               clear BK284
               clear HB
               have BK276 := n0_
               have BK280 := n1_
               have BK284 := n2_
               have HB := n3_
               have BK288 := n4_
               have GW288 := n5_
               have GE288 := n6_
               have NB276_288 := n7_
               have NB288_276 := n8_
               have NB280_288 := n9_
               have NB288_280 := n10_
               have NB284_288 := n11_
               have NB288_284 := n12_
               clear n0_ n1_ n2_ n3_ n4_ n5_ n6_ n7_ n8_ n9_ n10_ n11_ n12_
               clear hb hbox hg
               refine hK.out _ _ ⟨(blk_cell BK276.out 0).trans rfl, (blk_cell BK276.out 1).trans rfl⟩ (fun hHeld => ?_)
               clear hK K
               refine norm_ (a' := ?_) ?_ ?_
               rotate_left
               ·
                show Act.put _ (some 10) _ = _
                simp only [Act.put, List.setIfInBounds_toArray, List.set_cons_zero, List.set_cons_succ, i64_w, i32_w]
                rfl
               refine one_ (i := 4) (N := some 60) #[true, true, true, true, true, false, false, false, true, false, false] rfl rfl (one_of HT_.out (by kernel_rfl)) (by decide) (fun K hK => ?_)
               refine goes_ Tryd.func22 (by kernel_rfl) rfl #[.agg #[.int .i64 t273, .int .i64 t274], .string (t275.extract 0 ((ji33) : Int).toNat)] (by rfl) rfl rfl (by (try simp only [List.map_toArray, List.map_cons, List.map_nil]); first | done | (simp only [hji33]; rfl) | rfl | (simp only [List.length_drop, List.length_take]; rfl)) ?_
               with_reducible refine (impl_LongFrom.calls kj5 t273 t274 (t275.extract 0 ((ji33) : Int).toNat) t285 t286 true _ A36.out).mono ?_
               rintro e w81 ⟨rfl, hb⟩
               refine ⟨_, rfl, ?_⟩
               have n0_ := Aside0.mk (blk_below (g := gb276) (o := .cells #[.int .i64 t273, .int .i64 t274] 25 (0, 0)) (kb BK276.out) hb)
               have n1_ := Aside0.mk (blk_below (g := gb280) (o := .cells #[.int .i64 t277, .int .i64 t278] 25 (0, 0)) (kb BK280.out) hb)
               have n2_ := Aside0.mk (blk_below (g := gb284) (o := .cells #[.int .i64 t281, .int .i64 t282] 25 (0, 0)) (kb BK284.out) hb)
               have n3_ := Aside0.mk (blk_below (g := gb288) (o := .cells #[.int .i64 0, .int .i64 0] 25 (0, 0)) (kb BK288.out) hb)
               have n4_ := Aside0.mk (below_step (lb4 HB.out GE276.out GE280.out GE284.out GE288.out) hb)
               clear BK276
               clear BK280
               clear BK284
               clear BK288
               clear HB
               have BK276 := n0_
               have BK280 := n1_
               have BK284 := n2_
               have BK288 := n3_
               have HB := n4_
               clear n0_ n1_ n2_ n3_ n4_
               (try clear hb)
               (try clear hb2)
               (try clear hk)
               (try clear hi)
               refine hK.out _ _ ⟨(blk_cell BK276.out 0).trans rfl, (blk_cell BK276.out 1).trans rfl⟩ (fun hHeld => ?_)
               clear hK K
               refine norm_ (a' := ?_) ?_ ?_
               rotate_left
               ·
                show Act.put _ (some 60) _ = _
                simp only [Act.put, List.setIfInBounds_toArray, List.set_cons_zero, List.set_cons_succ, i64_w, i32_w]
                rfl
               refine pure_ (i := 5) (N := some 55) (v := ?_) (a' := ?_) #[true, true, true, true, true, true, false, false, true, false, false] rfl rfl (any_of HT_.out (by kernel_rfl)) (fun _ _ _ h => h) (Or.inl ⟨by rfl, ?_⟩) ?_ ?_
               rotate_left
               ·
                intro w'
                go_simp
                with_reducible rfl
               rotate_left
               ·
                simp only [Act.put, List.setIfInBounds_toArray, List.set_cons_zero, List.set_cons_succ, i64_w, i32_w]
                rfl
               refine pure_ (i := 6) (N := some 61) (v := ?_) (a' := ?_) #[true, true, true, true, true, true, true, false, true, false, false] rfl rfl (any_of HT_.out (by kernel_rfl)) (fun _ _ _ h => h) (Or.inl ⟨by rfl, ?_⟩) ?_ ?_
               rotate_left
               ·
                intro w'
                go_simp
                with_reducible rfl
               rotate_left
               ·
                simp only [Act.put, List.setIfInBounds_toArray, List.set_cons_zero, List.set_cons_succ, i64_w, i32_w]
                rfl
               refine pure_ (i := 7) (N := some 62) (v := ?_) (a' := ?_) #[true, true, true, true, true, true, true, true, true, false, false] rfl rfl (any_of HT_.out (by kernel_rfl)) (fun _ _ _ h => h) (Or.inl ⟨by rfl, ?_⟩) ?_ ?_
               rotate_left
               ·
                intro w'
                go_simp
                with_reducible rfl
               rotate_left
               ·
                simp only [Act.put, List.setIfInBounds_toArray, List.set_cons_zero, List.set_cons_succ, i64_w, i32_w]
                rfl
               exact norm_ (by simp only [putAll, Act.put, List.setIfInBounds_toArray, List.set_cons_zero, List.set_cons_succ]) (hCont (gb288) _ ⟨hHeld, (kb BK276.out), (kb BK280.out), (kb BK284.out), (kb BK288.out), GW288.out, GE288.out, NB276_288.out, NB288_276.out, NB280_288.out, NB288_280.out, NB284_288.out, NB288_284.out, (lb4 HB.out GE276.out GE280.out GE284.out GE288.out)⟩)
             rintro gb288 w82 ⟨hS_, h0_, h1_, h2_, h3_, h4_, h5_, h6_, h7_, h8_, h9_, h10_, h11_, h12_⟩
             have n0_ : Aside0 (w82.heap[gb276]? = some (.cells #[.int .i64 t273, .int .i64 t274] 25 (0, 0))) := ⟨h0_⟩
             have n1_ : Aside0 (w82.heap[gb280]? = some (.cells #[.int .i64 t277, .int .i64 t278] 25 (0, 0))) := ⟨h1_⟩
             have n2_ : Aside0 (w82.heap[gb284]? = some (.cells #[.int .i64 t281, .int .i64 t282] 25 (0, 0))) := ⟨h2_⟩
             have n3_ : Aside0 (w82.heap[gb288]? = some (.cells #[.int .i64 0, .int .i64 0] 25 (0, 0))) := ⟨h3_⟩
             have n4_ : Aside0 (w.heap.size ≤ gb288) := ⟨h4_⟩
             have n5_ : Aside0 (w.heap.size ≤ gb288) := ⟨h5_⟩
             have n6_ : Aside0 (gb276 ≠ gb288) := ⟨h6_⟩
             have n7_ : Aside0 (gb288 ≠ gb276) := ⟨h7_⟩
             have n8_ : Aside0 (gb280 ≠ gb288) := ⟨h8_⟩
             have n9_ : Aside0 (gb288 ≠ gb280) := ⟨h9_⟩
             have n10_ : Aside0 (gb284 ≠ gb288) := ⟨h10_⟩
             have n11_ : Aside0 (gb288 ≠ gb284) := ⟨h11_⟩
             have n12_ : Aside0 (Below w.heap.size w w82) := ⟨h12_⟩
             clear BK276
             clear BK280
             clear BK284
             clear HB
             clear h0_ h1_ h2_ h3_ h4_ h5_ h6_ h7_ h8_ h9_ h10_ h11_ h12_
             have BK276 := n0_
             have BK280 := n1_
             have BK284 := n2_
             have BK288 := n3_
             have GW288 := n4_
             have GE288 := n5_
             have NB276_288 := n6_
             have NB288_276 := n7_
             have NB280_288 := n8_
             have NB288_280 := n9_
             have NB284_288 := n10_
             have NB288_284 := n11_
             have HB := n12_
             clear n0_ n1_ n2_ n3_ n4_ n5_ n6_ n7_ n8_ n9_ n10_ n11_ n12_
             have hHeld : w82.cell? ⟨gb276, 0, none⟩ = some (.int .i64 t273) ∧ w82.cell? ⟨gb276, 1, none⟩ = some (.int .i64 t274) := hS_
             refine norm_ (a' := ?_) ?_ ?_
             rotate_left
             ·
              simp only [putAll, Act.put, List.setIfInBounds_toArray, List.set_cons_zero, List.set_cons_succ]
              rfl
             refine one_ (i := 9) (N := none) #[true, true, true, true, true, true, true, true, true, true, false] rfl rfl (one_of HT_.out (by kernel_rfl)) (by decide) (fun K hK => ?_)
             have hs83 : w82.cell? ⟨gb288, 0, none⟩ = some (.int .i64 0) := (blk_cell BK288.out 0).trans rfl
             have hfs83 := blk_frozen BK288.out 0
             have hns83_0 := NB276_288.out
             have hns83_1 := NB280_288.out
             have hns83_2 := NB284_288.out
             have hms83_0 := NB288_276.out
             have hms83_1 := NB288_280.out
             have hms83_2 := NB288_284.out
             have hs84 : w82.cell? ⟨gb288, 1, none⟩ = some (.int .i64 0) := (blk_cell BK288.out 1).trans rfl
             have hfs84 := blk_frozen BK288.out 1
             have hns84_0 := NB276_288.out
             have hns84_1 := NB280_288.out
             have hns84_2 := NB284_288.out
             have hms84_0 := NB288_276.out
             have hms84_1 := NB288_280.out
             have hms84_2 := NB288_284.out
             refine skip_ (w1 := ?_) (by rfl) rfl ?_ ?_
             rotate_left
             ·
              go_simp
              rfl
             refine hK.out _ _ ⟨((cell_far (p := ⟨gb288, _, none⟩) NB276_288.out _).trans (((cell_far (p := ⟨gb288, _, none⟩) NB276_288.out _).trans (hHeld.1)))), ((cell_far (p := ⟨gb288, _, none⟩) NB276_288.out _).trans (((cell_far (p := ⟨gb288, _, none⟩) NB276_288.out _).trans (hHeld.2))))⟩ (fun hHeld => ?_)
             clear hK K
             refine pure_ (i := 10) (N := some 11) (v := ?_) (a' := ?_) #[true, true, true, true, true, true, true, true, true, true, true] rfl rfl (any_of HT_.out (by kernel_rfl)) (fun _ _ _ h => h) (Or.inl ⟨by rfl, ?_⟩) ?_ ?_
             rotate_left
             ·
              intro w'
              go_simp
              with_reducible rfl
             rotate_left
             ·
              simp only [Act.put, List.setIfInBounds_toArray, List.set_cons_zero, List.set_cons_succ, i64_w, i32_w]
              rfl
             refine done_ (done_of HT_.out (by kernel_rfl)) ?_
             try go_wp2
             have n0_ : Aside0 (((w82.setCell ⟨gb288, 0, none⟩ (.int .i64 t285)).setCell ⟨gb288, 1, none⟩ (.int .i64 t286)).heap[gb276]? = some (.cells #[.int .i64 t273, .int .i64 t274] 25 (0, 0))) := ⟨kf1 BK276.out NB276_288.out⟩
             have n1_ : Aside0 (((w82.setCell ⟨gb288, 0, none⟩ (.int .i64 t285)).setCell ⟨gb288, 1, none⟩ (.int .i64 t286)).heap[gb280]? = some (.cells #[.int .i64 t277, .int .i64 t278] 25 (0, 0))) := ⟨kf1 BK280.out NB280_288.out⟩
             have n2_ : Aside0 (((w82.setCell ⟨gb288, 0, none⟩ (.int .i64 t285)).setCell ⟨gb288, 1, none⟩ (.int .i64 t286)).heap[gb284]? = some (.cells #[.int .i64 t281, .int .i64 t282] 25 (0, 0))) := ⟨kf1 BK284.out NB284_288.out⟩
             have n3_ : Aside0 (((w82.setCell ⟨gb288, 0, none⟩ (.int .i64 t285)).setCell ⟨gb288, 1, none⟩ (.int .i64 t286)).heap[gb288]? = some (.cells #[.int .i64 t285, .int .i64 t286] 25 (0, 0))) := ⟨by (with_reducible repeat (first | refine blk_drewN ?_ _ | refine blk_drew ?_ | refine blk_alloc ?_ _)); refine blk_put (cs := #[.int .i64 t285, .int .i64 0]) ?_ 1 _ rfl; (with_reducible repeat (first | refine blk_drewN ?_ _ | refine blk_drew ?_ | refine blk_alloc ?_ _)); refine blk_put (cs := #[.int .i64 0, .int .i64 0]) ?_ 0 _ rfl; (with_reducible repeat (first | refine blk_drewN ?_ _ | refine blk_drew ?_ | refine blk_alloc ?_ _)); exact BK288.out⟩
             have n4_ : Aside0 (Below w.heap.size w ((w82.setCell ⟨gb288, 0, none⟩ (.int .i64 t285)).setCell ⟨gb288, 1, none⟩ (.int .i64 t286))) := ⟨by repeat (first | (with_reducible first | exact HB.out | apply below_alloc | apply pw_below_drewN | apply below_drew1 | refine below_set ?_ GE276.out | refine below_set ?_ GE280.out | refine below_set ?_ GE284.out | refine below_set ?_ GE288.out) | exact HB.out)⟩
             (try clear BK276)
             (try clear BK280)
             (try clear BK284)
             (try clear BK288)
             (try clear HB)
             generalize ((w82.setCell ⟨gb288, 0, none⟩ (.int .i64 t285)).setCell ⟨gb288, 1, none⟩ (.int .i64 t286)) = w85 at n0_ n1_ n2_ n3_ n4_ ⊢
             have BK276 := n0_
             have BK280 := n1_
             have BK284 := n2_
             have BK288 := n3_
             have HB := n4_
             clear n0_ n1_ n2_ n3_ n4_
             have n0_ := Aside0.mk (blk_drew BK276.out)
             have n1_ := Aside0.mk (blk_drew BK280.out)
             have n2_ := Aside0.mk (blk_drew BK284.out)
             have n3_ := Aside0.mk (blk_drew BK288.out)
             have n4_ := Aside0.mk (below_drew1 HB.out)
             clear BK276
             clear BK280
             clear BK284
             clear BK288
             clear HB
             have BK276 := n0_
             have BK280 := n1_
             have BK284 := n2_
             have BK288 := n3_
             have HB := n4_
             clear n0_ n1_ n2_ n3_ n4_
             refine start_ (n := 11) (S := fun w' => w'.cell? ⟨gb288, 0, none⟩ = some (.int .i64 t285) ∧ w'.cell? ⟨gb288, 1, none⟩ = some (.int .i64 t286)) (ds := []) #[false, false, false, false, false, false, false, false, false, false, false] (by kernel_rfl) rfl rfl ⟨(blk_cell BK288.out 0).trans rfl, (blk_cell BK288.out 1).trans rfl⟩ (fun hHeld => ?_); refine with_tabW laws_FnLongFrom.tab12 laws_FnLongFrom.bits12 (fun HT_ HW_ => ?_)
             generalize w85.drew = w86 at BK276 BK280 BK284 BK288 HB hHeld ⊢
             refine pure_ (i := 1) (N := some 65) (v := ?_) (a' := ?_) #[false, true, false, false, false, false, false, false, false, false, false] rfl rfl (any_of HT_.out (by kernel_rfl)) (fun _ _ _ h => h) (Or.inl ⟨by rfl, ?_⟩) ?_ ?_
             rotate_left
             ·
              intro w'
              go_simp
              with_reducible rfl
             rotate_left
             ·
              simp only [Act.put, List.setIfInBounds_toArray, List.set_cons_zero, List.set_cons_succ, i64_w, i32_w]
              rfl
             refine pure_ (i := 2) (N := some 66) (v := ?_) (a' := ?_) #[false, true, true, false, false, false, false, false, false, false, false] rfl rfl (any_of HT_.out (by kernel_rfl)) (fun _ _ _ h => h) (Or.inl ⟨by rfl, ?_⟩) ?_ ?_
             rotate_left
             ·
              intro w'
              go_simp
              with_reducible rfl
             rotate_left
             ·
              simp only [Act.put, List.setIfInBounds_toArray, List.set_cons_zero, List.set_cons_succ, i64_w, i32_w]
              rfl
             refine pure_ (i := 3) (N := some 67) (v := ?_) (a' := ?_) #[false, true, true, true, false, false, false, false, false, false, false] rfl rfl (any_of HT_.out (by kernel_rfl)) (fun _ _ _ h => h) (Or.inl ⟨by rfl, ?_⟩) ?_ ?_
             rotate_left
             ·
              intro w'
              go_simp
              with_reducible rfl
             rotate_left
             ·
              simp only [Act.put, List.setIfInBounds_toArray, List.set_cons_zero, List.set_cons_succ, i64_w, i32_w]
              rfl
             refine take_ (i := 0) (N := some 64) (v := ?_) (a' := ?_) #[true, true, true, true, false, false, false, false, false, false, false] rfl rfl (take_ofW HT_.out HW_.out (by kernel_rfl)) (fun _ _ _ h => h) (Or.inl ⟨by rfl, ?_⟩) hHeld ?_ ?_
             rotate_left
             ·
              rintro w' ⟨s0, s1⟩
              go_simp
              with_reducible rfl
             rotate_left
             ·
              simp only [Act.put, List.setIfInBounds_toArray, List.set_cons_zero, List.set_cons_succ, i64_w, i32_w]
              rfl
             refine join_ (σ := Nat) 2 #[true, true, true, true, true, true, true, true, true, false, false] (fun s_ => [(68, .tuple #[.agg #[.int .i64 t289, .int .i64 t290], .bool true]), (12, .pointer (some ⟨s_, 0, none⟩)), (63, .tuple #[.agg #[.int .i64 t289, .int .i64 t290], .bool true]), (69, .agg #[.int .i64 t289, .int .i64 t290]), (70, .bool true)]) (fun s_ w' => (w'.cell? ⟨gb288, 0, none⟩ = some (.int .i64 t285) ∧ w'.cell? ⟨gb288, 1, none⟩ = some (.int .i64 t286)) ∧ (w'.heap[gb276]? = some (.cells #[.int .i64 t273, .int .i64 t274] 25 (0, 0))) ∧ (w'.heap[gb280]? = some (.cells #[.int .i64 t277, .int .i64 t278] 25 (0, 0))) ∧ (w'.heap[gb284]? = some (.cells #[.int .i64 t281, .int .i64 t282] 25 (0, 0))) ∧ (w'.heap[gb288]? = some (.cells #[.int .i64 t285, .int .i64 t286] 25 (0, 0))) ∧ (w'.heap[s_]? = some (.cells #[.int .i64 0, .int .i64 0] 25 (0, 0))) ∧ (w.heap.size ≤ s_) ∧ (w.heap.size ≤ s_) ∧ (gb276 ≠ s_) ∧ (s_ ≠ gb276) ∧ (gb280 ≠ s_) ∧ (s_ ≠ gb280) ∧ (gb284 ≠ s_) ∧ (s_ ≠ gb284) ∧ (gb288 ≠ s_) ∧ (s_ ≠ gb288) ∧ (Below w.heap.size w w')) ?_ ?_
             rotate_left
             ·
              intro hCont
              refine two_ (i := 4) (j := 8) (Ni := some 68) (Nj := some 12) #[true, true, true, true, true, false, false, false, false, false, false] #[true, true, true, true, false, false, false, false, true, false, false] rfl rfl rfl rfl (two_of HT_.out (by kernel_rfl)) (by decide) (by decide) (fun K hK => ?_) (fun K hK => ?_)
              ·
               skip
               refine goes_ Tryd.func22 (by kernel_rfl) rfl #[.agg #[.int .i64 t285, .int .i64 t286], .string (t275.extract ((ji33) : Int).toNat t275.size)] (by rfl) rfl rfl (by (try simp only [List.map_toArray, List.map_cons, List.map_nil]); first | done | (simp only [hji33]; rfl) | rfl | (simp only [List.length_drop, List.length_take]; rfl)) ?_
               with_reducible refine (impl_LongFrom.calls kj5 t285 t286 (t275.extract ((ji33) : Int).toNat t275.size) t289 t290 true _ A39.out).mono ?_
               rintro e w87 ⟨rfl, hb⟩
               refine ⟨_, rfl, ?_⟩
               have n0_ := Aside0.mk (blk_below (g := gb276) (o := .cells #[.int .i64 t273, .int .i64 t274] 25 (0, 0)) (kb BK276.out) hb)
               have n1_ := Aside0.mk (blk_below (g := gb280) (o := .cells #[.int .i64 t277, .int .i64 t278] 25 (0, 0)) (kb BK280.out) hb)
               have n2_ := Aside0.mk (blk_below (g := gb284) (o := .cells #[.int .i64 t281, .int .i64 t282] 25 (0, 0)) (kb BK284.out) hb)
               have n3_ := Aside0.mk (blk_below (g := gb288) (o := .cells #[.int .i64 t285, .int .i64 t286] 25 (0, 0)) (kb BK288.out) hb)
               have n4_ := Aside0.mk (below_step (lb4 HB.out GE276.out GE280.out GE284.out GE288.out) hb)
               clear BK276
               clear BK280
               clear BK284
               clear BK288
               clear HB
               have BK276 := n0_
               have BK280 := n1_
               have BK284 := n2_
               have BK288 := n3_
               have HB := n4_
               clear n0_ n1_ n2_ n3_ n4_
               (try clear hb)
               (try clear hb2)
               (try clear hk)
               (try clear hi)
               refine hK.out _ _ ⟨(blk_cell BK288.out 0).trans rfl, (blk_cell BK288.out 1).trans rfl⟩ (fun hHeld => ?_)
               clear hK K
               refine norm_ (a' := ?_) ?_ ?_
               rotate_left
               ·
                show Act.put _ (some 68) _ = _
                simp only [Act.put, List.setIfInBounds_toArray, List.set_cons_zero, List.set_cons_succ, i64_w, i32_w]
                rfl
               refine pure_ (i := 5) (N := some 63) (v := ?_) (a' := ?_) #[true, true, true, true, true, true, false, false, false, false, false] rfl rfl (any_of HT_.out (by kernel_rfl)) (fun _ _ _ h => h) (Or.inl ⟨by rfl, ?_⟩) ?_ ?_
               rotate_left
               ·
                intro w'
                go_simp
                with_reducible rfl
               rotate_left
               ·
                simp only [Act.put, List.setIfInBounds_toArray, List.set_cons_zero, List.set_cons_succ, i64_w, i32_w]
                rfl
               refine pure_ (i := 6) (N := some 69) (v := ?_) (a' := ?_) #[true, true, true, true, true, true, true, false, false, false, false] rfl rfl (any_of HT_.out (by kernel_rfl)) (fun _ _ _ h => h) (Or.inl ⟨by rfl, ?_⟩) ?_ ?_
               rotate_left
               ·
                intro w'
                go_simp
                with_reducible rfl
               rotate_left
               ·
                simp only [Act.put, List.setIfInBounds_toArray, List.set_cons_zero, List.set_cons_succ, i64_w, i32_w]
                rfl
               refine pure_ (i := 7) (N := some 70) (v := ?_) (a' := ?_) #[true, true, true, true, true, true, true, true, false, false, false] rfl rfl (any_of HT_.out (by kernel_rfl)) (fun _ _ _ h => h) (Or.inl ⟨by rfl, ?_⟩) ?_ ?_
               rotate_left
               ·
                intro w'
                go_simp
                with_reducible rfl
               rotate_left
               ·
                simp only [Act.put, List.setIfInBounds_toArray, List.set_cons_zero, List.set_cons_succ, i64_w, i32_w]
                rfl
               refine one_ (i := 8) (N := some 12) #[true, true, true, true, true, true, true, true, true, false, false] rfl rfl (one_of HT_.out (by kernel_rfl)) (by decide) (fun K hK => ?_)
               refine box_step ?hg (N := 12) ?hd (cs := #[.int .i64 0, .int .i64 0]) (t := 25) ?hr ?_; (case hd => rfl); (case hg => rfl); (case hr => first | (go_simp; done) | (go_simp; rfl))
               intro gb292 hg w88 hbox hb
               have n0_ := Aside0.mk (blk_below (g := gb276) (o := .cells #[.int .i64 t273, .int .i64 t274] 25 (0, 0)) (kb BK276.out) hb)
               have n1_ := Aside0.mk (blk_below (g := gb280) (o := .cells #[.int .i64 t277, .int .i64 t278] 25 (0, 0)) (kb BK280.out) hb)
               have n2_ := Aside0.mk (blk_below (g := gb284) (o := .cells #[.int .i64 t281, .int .i64 t282] 25 (0, 0)) (kb BK284.out) hb)
               have n3_ := Aside0.mk (blk_below (g := gb288) (o := .cells #[.int .i64 t285, .int .i64 t286] 25 (0, 0)) (kb BK288.out) hb)
               have n4_ := Aside0.mk (below_step (lb4 HB.out GE276.out GE280.out GE284.out GE288.out) hb)
               have n5_ := Aside0.mk (hbox)
               have n6_ := Aside0.mk ((by rw [hg]; exact (below_size (lb4 HB.out GE276.out GE280.out GE284.out GE288.out)) : w.heap.size ≤ gb292))
               have n7_ := Aside0.mk ((by rw [hg]; exact (below_size (lb4 HB.out GE276.out GE280.out GE284.out GE288.out)) : w.heap.size ≤ gb292))
               have n8_ := Aside0.mk ((by rw [hg]; exact Nat.ne_of_lt (blk_lt (g := gb276) (o := .cells #[.int .i64 t273, .int .i64 t274] 25 (0, 0)) (kb BK276.out)) : gb276 ≠ gb292))
               have n9_ := Aside0.mk ((by rw [hg]; exact Nat.ne_of_gt (blk_lt (g := gb276) (o := .cells #[.int .i64 t273, .int .i64 t274] 25 (0, 0)) (kb BK276.out)) : gb292 ≠ gb276))
               have n10_ := Aside0.mk ((by rw [hg]; exact Nat.ne_of_lt (blk_lt (g := gb280) (o := .cells #[.int .i64 t277, .int .i64 t278] 25 (0, 0)) (kb BK280.out)) : gb280 ≠ gb292))
               have n11_ := Aside0.mk ((by rw [hg]; exact Nat.ne_of_gt (blk_lt (g := gb280) (o := .cells #[.int .i64 t277, .int .i64 t278] 25 (0, 0)) (kb BK280.out)) : gb292 ≠ gb280))
               have n12_ := Aside0.mk ((by rw [hg]; exact Nat.ne_of_lt (blk_lt (g := gb284) (o := .cells #[.int .i64 t281, .int .i64 t282] 25 (0, 0)) (kb BK284.out)) : gb284 ≠ gb292))
               have n13_ := Aside0.mk ((by rw [hg]; exact Nat.ne_of_gt (blk_lt (g := gb284) (o := .cells #[.int .i64 t281, .int .i64 t282] 25 (0, 0)) (kb BK284.out)) : gb292 ≠ gb284))
               have n14_ := Aside0.mk ((by rw [hg]; exact Nat.ne_of_lt (blk_lt (g := gb288) (o := .cells #[.int .i64 t285, .int .i64 t286] 25 (0, 0)) (kb BK288.out)) : gb288 ≠ gb292))
               have n15_ := Aside0.mk ((by rw [hg]; exact Nat.ne_of_gt (blk_lt (g := gb288) (o := .cells #[.int .i64 t285, .int .i64 t286] 25 (0, 0)) (kb BK288.out)) : gb292 ≠ gb288))
               clear BK276
               clear BK280
               clear BK284
               clear BK288
               clear HB
               have BK276 := n0_
               have BK280 := n1_
               have BK284 := n2_
               have BK288 := n3_
               have HB := n4_
               have BK292 := n5_
               have GW292 := n6_
               have GE292 := n7_
               have NB276_292 := n8_
               have NB292_276 := n9_
               have NB280_292 := n10_
               have NB292_280 := n11_
               have NB284_292 := n12_
               have NB292_284 := n13_
               have NB288_292 := n14_
               have NB292_288 := n15_
               clear n0_ n1_ n2_ n3_ n4_ n5_ n6_ n7_ n8_ n9_ n10_ n11_ n12_ n13_ n14_ n15_
               clear hb hbox hg
               refine hK.out _ _ ⟨(blk_cell BK288.out 0).trans rfl, (blk_cell BK288.out 1).trans rfl⟩ (fun hHeld => ?_)
               clear hK K
               refine norm_ (a' := ?_) ?_ ?_
               rotate_left
               ·
                show Act.put _ (some 12) _ = _
                simp only [Act.put, List.setIfInBounds_toArray, List.set_cons_zero, List.set_cons_succ, i64_w, i32_w]
                rfl
               exact norm_ (by simp only [putAll, Act.put, List.setIfInBounds_toArray, List.set_cons_zero, List.set_cons_succ]) (hCont (gb292) _ ⟨hHeld, (kb BK276.out), (kb BK280.out), (kb BK284.out), (kb BK288.out), (kb BK292.out), GW292.out, GE292.out, NB276_292.out, NB292_276.out, NB280_292.out, NB292_280.out, NB284_292.out, NB292_284.out, NB288_292.out, NB292_288.out, (lb5 HB.out GE276.out GE280.out GE284.out GE288.out GE292.out)⟩)
              ·
               skip
               refine box_step ?hg (N := 12) ?hd (cs := #[.int .i64 0, .int .i64 0]) (t := 25) ?hr ?_; (case hd => rfl); (case hg => rfl); (case hr => first | (go_simp; done) | (go_simp; rfl))
               intro gb292 hg w87 hbox hb
               have n0_ := Aside0.mk (blk_below (g := gb276) (o := .cells #[.int .i64 t273, .int .i64 t274] 25 (0, 0)) (kb BK276.out) hb)
               have n1_ := Aside0.mk (blk_below (g := gb280) (o := .cells #[.int .i64 t277, .int .i64 t278] 25 (0, 0)) (kb BK280.out) hb)
               have n2_ := Aside0.mk (blk_below (g := gb284) (o := .cells #[.int .i64 t281, .int .i64 t282] 25 (0, 0)) (kb BK284.out) hb)
               have n3_ := Aside0.mk (blk_below (g := gb288) (o := .cells #[.int .i64 t285, .int .i64 t286] 25 (0, 0)) (kb BK288.out) hb)
               have n4_ := Aside0.mk (below_step (lb4 HB.out GE276.out GE280.out GE284.out GE288.out) hb)
               have n5_ := Aside0.mk (hbox)
               have n6_ := Aside0.mk ((by rw [hg]; exact (below_size (lb4 HB.out GE276.out GE280.out GE284.out GE288.out)) : w.heap.size ≤ gb292))
               have n7_ := Aside0.mk ((by rw [hg]; exact (below_size (lb4 HB.out GE276.out GE280.out GE284.out GE288.out)) : w.heap.size ≤ gb292))
               have n8_ := Aside0.mk ((by rw [hg]; exact Nat.ne_of_lt (blk_lt (g := gb276) (o := .cells #[.int .i64 t273, .int .i64 t274] 25 (0, 0)) (kb BK276.out)) : gb276 ≠ gb292))
               have n9_ := Aside0.mk ((by rw [hg]; exact Nat.ne_of_gt (blk_lt (g := gb276) (o := .cells #[.int .i64 t273, .int .i64 t274] 25 (0, 0)) (kb BK276.out)) : gb292 ≠ gb276))
               have n10_ := Aside0.mk ((by rw [hg]; exact Nat.ne_of_lt (blk_lt (g := gb280) (o := .cells #[.int .i64 t277, .int .i64 t278] 25 (0, 0)) (kb BK280.out)) : gb280 ≠ gb292))
               have n11_ := Aside0.mk ((by rw [hg]; exact Nat.ne_of_gt (blk_lt (g := gb280) (o := .cells #[.int .i64 t277, .int .i64 t278] 25 (0, 0)) (kb BK280.out)) : gb292 ≠ gb280))
               have n12_ := Aside0.mk ((by rw [hg]; exact Nat.ne_of_lt (blk_lt (g := gb284) (o := .cells #[.int .i64 t281, .int .i64 t282] 25 (0, 0)) (kb BK284.out)) : gb284 ≠ gb292))
               have n13_ := Aside0.mk ((by rw [hg]; exact Nat.ne_of_gt (blk_lt (g := gb284) (o := .cells #[.int .i64 t281, .int .i64 t282] 25 (0, 0)) (kb BK284.out)) : gb292 ≠ gb284))
               have n14_ := Aside0.mk ((by rw [hg]; exact Nat.ne_of_lt (blk_lt (g := gb288) (o := .cells #[.int .i64 t285, .int .i64 t286] 25 (0, 0)) (kb BK288.out)) : gb288 ≠ gb292))
               have n15_ := Aside0.mk ((by rw [hg]; exact Nat.ne_of_gt (blk_lt (g := gb288) (o := .cells #[.int .i64 t285, .int .i64 t286] 25 (0, 0)) (kb BK288.out)) : gb292 ≠ gb288))
               clear BK276
               clear BK280
               clear BK284
               clear BK288
               clear HB
               have BK276 := n0_
               have BK280 := n1_
               have BK284 := n2_
               have BK288 := n3_
               have HB := n4_
               have BK292 := n5_
               have GW292 := n6_
               have GE292 := n7_
               have NB276_292 := n8_
               have NB292_276 := n9_
               have NB280_292 := n10_
               have NB292_280 := n11_
               have NB284_292 := n12_
               have NB292_284 := n13_
               have NB288_292 := n14_
               have NB292_288 := n15_
               clear n0_ n1_ n2_ n3_ n4_ n5_ n6_ n7_ n8_ n9_ n10_ n11_ n12_ n13_ n14_ n15_
               clear hb hbox hg
               refine hK.out _ _ ⟨(blk_cell BK288.out 0).trans rfl, (blk_cell BK288.out 1).trans rfl⟩ (fun hHeld => ?_)
               clear hK K
               refine norm_ (a' := ?_) ?_ ?_
               rotate_left
               ·
                show Act.put _ (some 12) _ = _
                simp only [Act.put, List.setIfInBounds_toArray, List.set_cons_zero, List.set_cons_succ, i64_w, i32_w]
                rfl
               refine one_ (i := 4) (N := some 68) #[true, true, true, true, true, false, false, false, true, false, false] rfl rfl (one_of HT_.out (by kernel_rfl)) (by decide) (fun K hK => ?_)
               refine goes_ Tryd.func22 (by kernel_rfl) rfl #[.agg #[.int .i64 t285, .int .i64 t286], .string (t275.extract ((ji33) : Int).toNat t275.size)] (by rfl) rfl rfl (by (try simp only [List.map_toArray, List.map_cons, List.map_nil]); first | done | (simp only [hji33]; rfl) | rfl | (simp only [List.length_drop, List.length_take]; rfl)) ?_
               with_reducible refine (impl_LongFrom.calls kj5 t285 t286 (t275.extract ((ji33) : Int).toNat t275.size) t289 t290 true _ A39.out).mono ?_
               rintro e w88 ⟨rfl, hb⟩
               refine ⟨_, rfl, ?_⟩
               have n0_ := Aside0.mk (blk_below (g := gb276) (o := .cells #[.int .i64 t273, .int .i64 t274] 25 (0, 0)) (kb BK276.out) hb)
               have n1_ := Aside0.mk (blk_below (g := gb280) (o := .cells #[.int .i64 t277, .int .i64 t278] 25 (0, 0)) (kb BK280.out) hb)
               have n2_ := Aside0.mk (blk_below (g := gb284) (o := .cells #[.int .i64 t281, .int .i64 t282] 25 (0, 0)) (kb BK284.out) hb)
               have n3_ := Aside0.mk (blk_below (g := gb288) (o := .cells #[.int .i64 t285, .int .i64 t286] 25 (0, 0)) (kb BK288.out) hb)
               have n4_ := Aside0.mk (blk_below (g := gb292) (o := .cells #[.int .i64 0, .int .i64 0] 25 (0, 0)) (kb BK292.out) hb)
               have n5_ := Aside0.mk (below_step (lb5 HB.out GE276.out GE280.out GE284.out GE288.out GE292.out) hb)
               clear BK276
               clear BK280
               clear BK284
               clear BK288
               clear BK292
               clear HB
               have BK276 := n0_
               have BK280 := n1_
               have BK284 := n2_
               have BK288 := n3_
               have BK292 := n4_
               have HB := n5_
               clear n0_ n1_ n2_ n3_ n4_ n5_
               (try clear hb)
               (try clear hb2)
               (try clear hk)
               (try clear hi)
               refine hK.out _ _ ⟨(blk_cell BK288.out 0).trans rfl, (blk_cell BK288.out 1).trans rfl⟩ (fun hHeld => ?_)
               clear hK K
               refine norm_ (a' := ?_) ?_ ?_
               rotate_left
               ·
                show Act.put _ (some 68) _ = _
                simp only [Act.put, List.setIfInBounds_toArray, List.set_cons_zero, List.set_cons_succ, i64_w, i32_w]
                rfl
               refine pure_ (i := 5) (N := some 63) (v := ?_) (a' := ?_) #[true, true, true, true, true, true, false, false, true, false, false] rfl rfl (any_of HT_.out (by kernel_rfl)) (fun _ _ _ h => h) (Or.inl ⟨by rfl, ?_⟩) ?_ ?_
               rotate_left
               ·
                intro w'
                go_simp
                with_reducible rfl
               rotate_left
               ·
                simp only [Act.put, List.setIfInBounds_toArray, List.set_cons_zero, List.set_cons_succ, i64_w, i32_w]
                rfl
               refine pure_ (i := 6) (N := some 69) (v := ?_) (a' := ?_) #[true, true, true, true, true, true, true, false, true, false, false] rfl rfl (any_of HT_.out (by kernel_rfl)) (fun _ _ _ h => h) (Or.inl ⟨by rfl, ?_⟩) ?_ ?_
               rotate_left
               ·
                intro w'
                go_simp
                with_reducible rfl
               rotate_left
               ·
                simp only [Act.put, List.setIfInBounds_toArray, List.set_cons_zero, List.set_cons_succ, i64_w, i32_w]
                rfl
               refine pure_ (i := 7) (N := some 70) (v := ?_) (a' := ?_) #[true, true, true, true, true, true, true, true, true, false, false] rfl rfl (any_of HT_.out (by kernel_rfl)) (fun _ _ _ h => h) (Or.inl ⟨by rfl, ?_⟩) ?_ ?_
               rotate_left
               ·
                intro w'
                go_simp
                with_reducible rfl
               rotate_left
               ·
                simp only [Act.put, List.setIfInBounds_toArray, List.set_cons_zero, List.set_cons_succ, i64_w, i32_w]
                rfl
               exact norm_ (by simp only [putAll, Act.put, List.setIfInBounds_toArray, List.set_cons_zero, List.set_cons_succ]) (hCont (gb292) _ ⟨hHeld, (kb BK276.out), (kb BK280.out), (kb BK284.out), (kb BK288.out), (kb BK292.out), GW292.out, GE292.out, NB276_292.out, NB292_276.out, NB280_292.out, NB292_280.out, NB284_292.out, NB292_284.out, NB288_292.out, NB292_288.out, (lb5 HB.out GE276.out GE280.out GE284.out GE288.out GE292.out)⟩)
             rintro gb292 w89 ⟨hS_, h0_, h1_, h2_, h3_, h4_, h5_, h6_, h7_, h8_, h9_, h10_, h11_, h12_, h13_, h14_, h15_⟩
             have n0_ : Aside0 (w89.heap[gb276]? = some (.cells #[.int .i64 t273, .int .i64 t274] 25 (0, 0))) := ⟨h0_⟩
             have n1_ : Aside0 (w89.heap[gb280]? = some (.cells #[.int .i64 t277, .int .i64 t278] 25 (0, 0))) := ⟨h1_⟩
             have n2_ : Aside0 (w89.heap[gb284]? = some (.cells #[.int .i64 t281, .int .i64 t282] 25 (0, 0))) := ⟨h2_⟩
             have n3_ : Aside0 (w89.heap[gb288]? = some (.cells #[.int .i64 t285, .int .i64 t286] 25 (0, 0))) := ⟨h3_⟩
             have n4_ : Aside0 (w89.heap[gb292]? = some (.cells #[.int .i64 0, .int .i64 0] 25 (0, 0))) := ⟨h4_⟩
             have n5_ : Aside0 (w.heap.size ≤ gb292) := ⟨h5_⟩
             have n6_ : Aside0 (w.heap.size ≤ gb292) := ⟨h6_⟩
             have n7_ : Aside0 (gb276 ≠ gb292) := ⟨h7_⟩
             have n8_ : Aside0 (gb292 ≠ gb276) := ⟨h8_⟩
             have n9_ : Aside0 (gb280 ≠ gb292) := ⟨h9_⟩
             have n10_ : Aside0 (gb292 ≠ gb280) := ⟨h10_⟩
             have n11_ : Aside0 (gb284 ≠ gb292) := ⟨h11_⟩
             have n12_ : Aside0 (gb292 ≠ gb284) := ⟨h12_⟩
             have n13_ : Aside0 (gb288 ≠ gb292) := ⟨h13_⟩
             have n14_ : Aside0 (gb292 ≠ gb288) := ⟨h14_⟩
             have n15_ : Aside0 (Below w.heap.size w w89) := ⟨h15_⟩
             clear BK276
             clear BK280
             clear BK284
             clear BK288
             clear HB
             clear h0_ h1_ h2_ h3_ h4_ h5_ h6_ h7_ h8_ h9_ h10_ h11_ h12_ h13_ h14_ h15_
             have BK276 := n0_
             have BK280 := n1_
             have BK284 := n2_
             have BK288 := n3_
             have BK292 := n4_
             have GW292 := n5_
             have GE292 := n6_
             have NB276_292 := n7_
             have NB292_276 := n8_
             have NB280_292 := n9_
             have NB292_280 := n10_
             have NB284_292 := n11_
             have NB292_284 := n12_
             have NB288_292 := n13_
             have NB292_288 := n14_
             have HB := n15_
             clear n0_ n1_ n2_ n3_ n4_ n5_ n6_ n7_ n8_ n9_ n10_ n11_ n12_ n13_ n14_ n15_
             have hHeld : w89.cell? ⟨gb288, 0, none⟩ = some (.int .i64 t285) ∧ w89.cell? ⟨gb288, 1, none⟩ = some (.int .i64 t286) := hS_
             refine norm_ (a' := ?_) ?_ ?_
             rotate_left
             ·
              simp only [putAll, Act.put, List.setIfInBounds_toArray, List.set_cons_zero, List.set_cons_succ]
              rfl
             refine one_ (i := 9) (N := none) #[true, true, true, true, true, true, true, true, true, true, false] rfl rfl (one_of HT_.out (by kernel_rfl)) (by decide) (fun K hK => ?_)
             have hs90 : w89.cell? ⟨gb292, 0, none⟩ = some (.int .i64 0) := (blk_cell BK292.out 0).trans rfl
             have hfs90 := blk_frozen BK292.out 0
             have hns90_0 := NB276_292.out
             have hns90_1 := NB280_292.out
             have hns90_2 := NB284_292.out
             have hns90_3 := NB288_292.out
             have hms90_0 := NB292_276.out
             have hms90_1 := NB292_280.out
             have hms90_2 := NB292_284.out
             have hms90_3 := NB292_288.out
             have hs91 : w89.cell? ⟨gb292, 1, none⟩ = some (.int .i64 0) := (blk_cell BK292.out 1).trans rfl
             have hfs91 := blk_frozen BK292.out 1
             have hns91_0 := NB276_292.out
             have hns91_1 := NB280_292.out
             have hns91_2 := NB284_292.out
             have hns91_3 := NB288_292.out
             have hms91_0 := NB292_276.out
             have hms91_1 := NB292_280.out
             have hms91_2 := NB292_284.out
             have hms91_3 := NB292_288.out
             refine skip_ (w1 := ?_) (by rfl) rfl ?_ ?_
             rotate_left
             ·
              go_simp
              rfl
             refine hK.out _ _ ⟨((cell_far (p := ⟨gb292, _, none⟩) NB288_292.out _).trans (((cell_far (p := ⟨gb292, _, none⟩) NB288_292.out _).trans (hHeld.1)))), ((cell_far (p := ⟨gb292, _, none⟩) NB288_292.out _).trans (((cell_far (p := ⟨gb292, _, none⟩) NB288_292.out _).trans (hHeld.2))))⟩ (fun hHeld => ?_)
             clear hK K
             refine pure_ (i := 10) (N := some 13) (v := ?_) (a' := ?_) #[true, true, true, true, true, true, true, true, true, true, true] rfl rfl (any_of HT_.out (by kernel_rfl)) (fun _ _ _ h => h) (Or.inl ⟨by rfl, ?_⟩) ?_ ?_
             rotate_left
             ·
              intro w'
              go_simp
              with_reducible rfl
             rotate_left
             ·
              simp only [Act.put, List.setIfInBounds_toArray, List.set_cons_zero, List.set_cons_succ, i64_w, i32_w]
              rfl
             refine done_ (done_of HT_.out (by kernel_rfl)) ?_
             have hnb92 := NB276_280.out
             have hnc92 := NB280_276.out
             have hnb93 := NB276_284.out
             have hnc93 := NB284_276.out
             have hnb94 := NB276_288.out
             have hnc94 := NB288_276.out
             have hnb95 := NB276_292.out
             have hnc95 := NB292_276.out
             have hcz96_0 : w89.cell? ⟨gb276, 0, none⟩ = some (.int .i64 t273) := (blk_cell BK276.out 0).trans rfl
             have hcz96_1 : w89.cell? ⟨gb276, 1, none⟩ = some (.int .i64 t274) := (blk_cell BK276.out 1).trans rfl
             have hfz96_0 := blk_frozen BK276.out 0
             have hfz96_1 := blk_frozen BK276.out 1
             try go_wp2_with (first | ((with_reducible refine gate_callee (f := 19) rfl ?_); refine goesL_ (some 74) rfl rfl Tryd.func19 (by kernel_rfl) rfl #[.agg #[.int .i64 t273, .int .i64 t274], .string t275] rfl (by (try simp only [List.map_toArray, List.map_cons, List.map_nil]); first | done | rfl | (simp only [List.length_drop, List.length_take]; rfl)) ?_; (with_reducible refine (impl_DancedFrom.calls kj5 t273 t274 t275 t293 t294 true _ A40.out).mono ?_); rintro e w97 ⟨rfl, hb⟩; refine ⟨_, rfl, ?_⟩; have n0_ := Aside0.mk (blk_below (g := gb276) (o := .cells #[.int .i64 t273, .int .i64 t274] 25 (0, 0)) (kf1 BK276.out NB276_292.out) hb); have n1_ := Aside0.mk (blk_below (g := gb280) (o := .cells #[.int .i64 t277, .int .i64 t278] 25 (0, 0)) (kf1 BK280.out NB280_292.out) hb); have n2_ := Aside0.mk (blk_below (g := gb284) (o := .cells #[.int .i64 t281, .int .i64 t282] 25 (0, 0)) (kf1 BK284.out NB284_292.out) hb); have n3_ := Aside0.mk (blk_below (g := gb288) (o := .cells #[.int .i64 t285, .int .i64 t286] 25 (0, 0)) (kf1 BK288.out NB288_292.out) hb); have n4_ := Aside0.mk (blk_below (g := gb292) (o := .cells #[.int .i64 t289, .int .i64 t290] 25 (0, 0)) (by (with_reducible repeat (first | refine blk_drewN ?_ _ | refine blk_drew ?_ | refine blk_alloc ?_ _)); refine blk_put (cs := #[.int .i64 t289, .int .i64 0]) ?_ 1 _ rfl; (with_reducible repeat (first | refine blk_drewN ?_ _ | refine blk_drew ?_ | refine blk_alloc ?_ _)); refine blk_put (cs := #[.int .i64 0, .int .i64 0]) ?_ 0 _ rfl; (with_reducible repeat (first | refine blk_drewN ?_ _ | refine blk_drew ?_ | refine blk_alloc ?_ _)); exact BK292.out) hb); have n5_ := Aside0.mk (below_step (lb5 HB.out GE276.out GE280.out GE284.out GE288.out GE292.out) hb); clear BK276; clear BK280; clear BK284; clear BK288; clear BK292; clear HB; have BK276 := n0_; have BK280 := n1_; have BK284 := n2_; have BK288 := n3_; have BK292 := n4_; have HB := n5_; clear n0_ n1_ n2_ n3_ n4_ n5_; (try clear hb); (try clear hb2); (try clear hk); (try clear hi)) | ((with_reducible refine gate_dst (N := 14) rfl ?_); (try (refine gate_guard (by rfl) ?_; dsimp only)); refine box_event ?hg (N := 14) ?hd (cs := #[.int .i64 0, .int .i64 0]) (t := 25) ?hr ?_; (case hd => rfl); (case hg => rfl); (case hr => first | (go_simp; done) | (go_simp; rfl)); intro gb296 hg w98 hbox hb; have n0_ := Aside0.mk (blk_below (g := gb276) (o := .cells #[.int .i64 t273, .int .i64 t274] 25 (0, 0)) (kb BK276.out) hb); have n1_ := Aside0.mk (blk_below (g := gb280) (o := .cells #[.int .i64 t277, .int .i64 t278] 25 (0, 0)) (kb BK280.out) hb); have n2_ := Aside0.mk (blk_below (g := gb284) (o := .cells #[.int .i64 t281, .int .i64 t282] 25 (0, 0)) (kb BK284.out) hb); have n3_ := Aside0.mk (blk_below (g := gb288) (o := .cells #[.int .i64 t285, .int .i64 t286] 25 (0, 0)) (kb BK288.out) hb); have n4_ := Aside0.mk (blk_below (g := gb292) (o := .cells #[.int .i64 t289, .int .i64 t290] 25 (0, 0)) (kb BK292.out) hb); have n5_ := Aside0.mk (below_step (lb5 HB.out GE276.out GE280.out GE284.out GE288.out GE292.out) hb); have n6_ := Aside0.mk (hbox); have n7_ := Aside0.mk ((by rw [hg]; exact (below_size (lb5 HB.out GE276.out GE280.out GE284.out GE288.out GE292.out)) : w.heap.size ≤ gb296)); have n8_ := Aside0.mk ((by rw [hg]; exact (below_size (lb5 HB.out GE276.out GE280.out GE284.out GE288.out GE292.out)) : w.heap.size ≤ gb296)); have n9_ := Aside0.mk ((by rw [hg]; exact Nat.ne_of_lt (blk_lt (g := gb276) (o := .cells #[.int .i64 t273, .int .i64 t274] 25 (0, 0)) (kb BK276.out)) : gb276 ≠ gb296)); have n10_ := Aside0.mk ((by rw [hg]; exact Nat.ne_of_gt (blk_lt (g := gb276) (o := .cells #[.int .i64 t273, .int .i64 t274] 25 (0, 0)) (kb BK276.out)) : gb296 ≠ gb276)); have n11_ := Aside0.mk ((by rw [hg]; exact Nat.ne_of_lt (blk_lt (g := gb280) (o := .cells #[.int .i64 t277, .int .i64 t278] 25 (0, 0)) (kb BK280.out)) : gb280 ≠ gb296)); have n12_ := Aside0.mk ((by rw [hg]; exact Nat.ne_of_gt (blk_lt (g := gb280) (o := .cells #[.int .i64 t277, .int .i64 t278] 25 (0, 0)) (kb BK280.out)) : gb296 ≠ gb280)); have n13_ := Aside0.mk ((by rw [hg]; exact Nat.ne_of_lt (blk_lt (g := gb284) (o := .cells #[.int .i64 t281, .int .i64 t282] 25 (0, 0)) (kb BK284.out)) : gb284 ≠ gb296)); have n14_ := Aside0.mk ((by rw [hg]; exact Nat.ne_of_gt (blk_lt (g := gb284) (o := .cells #[.int .i64 t281, .int .i64 t282] 25 (0, 0)) (kb BK284.out)) : gb296 ≠ gb284)); have n15_ := Aside0.mk ((by rw [hg]; exact Nat.ne_of_lt (blk_lt (g := gb288) (o := .cells #[.int .i64 t285, .int .i64 t286] 25 (0, 0)) (kb BK288.out)) : gb288 ≠ gb296)); have n16_ := Aside0.mk ((by rw [hg]; exact Nat.ne_of_gt (blk_lt (g := gb288) (o := .cells #[.int .i64 t285, .int .i64 t286] 25 (0, 0)) (kb BK288.out)) : gb296 ≠ gb288)); have n17_ := Aside0.mk ((by rw [hg]; exact Nat.ne_of_lt (blk_lt (g := gb292) (o := .cells #[.int .i64 t289, .int .i64 t290] 25 (0, 0)) (kb BK292.out)) : gb292 ≠ gb296)); have n18_ := Aside0.mk ((by rw [hg]; exact Nat.ne_of_gt (blk_lt (g := gb292) (o := .cells #[.int .i64 t289, .int .i64 t290] 25 (0, 0)) (kb BK292.out)) : gb296 ≠ gb292)); clear BK276; clear BK280; clear BK284; clear BK288; clear BK292; clear HB; have BK276 := n0_; have BK280 := n1_; have BK284 := n2_; have BK288 := n3_; have BK292 := n4_; have HB := n5_; have BK296 := n6_; have GW296 := n7_; have GE296 := n8_; have NB276_296 := n9_; have NB296_276 := n10_; have NB280_296 := n11_; have NB296_280 := n12_; have NB284_296 := n13_; have NB296_284 := n14_; have NB288_296 := n15_; have NB296_288 := n16_; have NB292_296 := n17_; have NB296_292 := n18_; clear n0_ n1_ n2_ n3_ n4_ n5_ n6_ n7_ n8_ n9_ n10_ n11_ n12_ n13_ n14_ n15_ n16_ n17_ n18_; clear hb hbox hg; have hnb99 := NB296_276.out; have hnc99 := NB276_296.out; have hnb100 := NB296_280.out; have hnc100 := NB280_296.out; have hnb101 := NB296_284.out; have hnc101 := NB284_296.out; have hnb102 := NB296_288.out; have hnc102 := NB288_296.out; have hnb103 := NB296_292.out; have hnc103 := NB292_296.out; have hcz104_0 : w98.cell? ⟨gb296, 0, none⟩ = some (.int .i64 0) := (blk_cell BK296.out 0).trans rfl; have hcz104_1 : w98.cell? ⟨gb296, 1, none⟩ = some (.int .i64 0) := (blk_cell BK296.out 1).trans rfl; have hfz104_0 := blk_frozen BK296.out 0; have hfz104_1 := blk_frozen BK296.out 1; have hnb105 := NB292_280.out; have hnc105 := NB280_292.out; have hnb106 := NB292_284.out; have hnc106 := NB284_292.out; have hnb107 := NB292_288.out; have hnc107 := NB288_292.out; have hcz108_0 : w98.cell? ⟨gb292, 0, none⟩ = some (.int .i64 t289) := (blk_cell BK292.out 0).trans rfl; have hcz108_1 : w98.cell? ⟨gb292, 1, none⟩ = some (.int .i64 t290) := (blk_cell BK292.out 1).trans rfl; have hfz108_0 := blk_frozen BK292.out 0; have hfz108_1 := blk_frozen BK292.out 1; have hnb109 := NB280_284.out; have hnc109 := NB284_280.out; have hnb110 := NB280_288.out; have hnc110 := NB288_280.out; have hcz111_0 : w98.cell? ⟨gb280, 0, none⟩ = some (.int .i64 t277) := (blk_cell BK280.out 0).trans rfl; have hcz111_1 : w98.cell? ⟨gb280, 1, none⟩ = some (.int .i64 t278) := (blk_cell BK280.out 1).trans rfl; have hfz111_0 := blk_frozen BK280.out 0; have hfz111_1 := blk_frozen BK280.out 1))
             go_ret
             exact ⟨by first | rfl | (simp [errW_none, errW_some] <;> rfl) | (simp only [← hji33]; first | rfl | (simp [errW_none, errW_some] <;> rfl)) | (simp [*, errW_none, errW_some] <;> rfl), by repeat (first | (with_reducible first | exact HB.out | apply below_alloc | apply pw_below_drewN | apply below_drew1 | refine below_set ?_ GE276.out | refine below_set ?_ GE280.out | refine below_set ?_ GE284.out | refine below_set ?_ GE288.out | refine below_set ?_ GE292.out | refine below_set ?_ GE296.out) | exact HB.out)⟩
            ·
             replace c78 := Bool.eq_false_iff.mpr c78
             subst c78
             have H1 : (some false) = some r := by rw [if_neg (show ¬ (false = true) by decide)] at H; exact H
             clear H
             have H := H1
             clear H1
             exact absurd ((Option.some.inj H).trans hr) (by simp)
          ·
           rw [if_neg c43] at H
           have c43b0 : (t289 == t277 && (t290 == t278)) = false := by simpa using c43
           (try (have c43b1 : decide (t289 = t277 && (t290 == t278)) = false := by simpa using c43))
           (try (have c43b2 : (t289 == t277 && (t290 == t278)) = false := by simpa using c43))
           (try (have c43b3 : ¬ (t289 = t277 && (t290 == t278)) := by simpa using c43))
           clear c43
           exact absurd ((Option.some.inj H).trans hr) (by simp)
         ·
          replace c42 := Bool.eq_false_iff.mpr c42
          subst c42
          have H1 : (if (t275.size : Int) > 40 then (some true) else (if t295 = true then (some (t293 == t277 && (t294 == t278))) else (some false))) = some r := by rw [if_neg (show ¬ (false = true) by decide)] at H; exact H
          clear H
          have H := H1
          clear H1
          by_cases c178 : (t275.size : Int) > 40
          ·
           rw [if_pos c178] at H
           have c178b0 : decide (40 < (t275.size : Int)) = true := decide_eq_true c178
           have c178b1 : decide (40 < t275.size) = true := decide_eq_true (by omega)
           clear c178
           obtain rfl := Option.some.inj H
           try go_wp2
           have n0_ := Aside0.mk (blk_drew BK276.out)
           have n1_ := Aside0.mk (blk_drew BK280.out)
           have n2_ := Aside0.mk (blk_drew BK284.out)
           have n3_ := Aside0.mk (below_drew1 HB.out)
           clear BK276
           clear BK280
           clear BK284
           clear HB
           have BK276 := n0_
           have BK280 := n1_
           have BK284 := n2_
           have HB := n3_
           clear n0_ n1_ n2_ n3_
           refine start_ (n := 11) (S := fun w' => w'.cell? ⟨gb276, 0, none⟩ = some (.int .i64 t273) ∧ w'.cell? ⟨gb276, 1, none⟩ = some (.int .i64 t274)) (ds := []) #[false, false, false, false, false, false, false, false, false, false, false] (by kernel_rfl) rfl rfl ⟨(blk_cell BK276.out 0).trans rfl, (blk_cell BK276.out 1).trans rfl⟩ (fun hHeld => ?_); refine with_tabW laws_FnLongFrom.tab11 laws_FnLongFrom.bits11 (fun HT_ HW_ => ?_)
           generalize wc.drew = w179 at BK276 BK280 BK284 HB hHeld ⊢
           refine pure_ (i := 1) (N := some 57) (v := ?_) (a' := ?_) #[false, true, false, false, false, false, false, false, false, false, false] rfl rfl (any_of HT_.out (by kernel_rfl)) (fun _ _ _ h => h) (Or.inl ⟨by rfl, ?_⟩) ?_ ?_
           rotate_left
           ·
            intro w'
            go_simp
            with_reducible rfl
           rotate_left
           ·
            simp only [Act.put, List.setIfInBounds_toArray, List.set_cons_zero, List.set_cons_succ, i64_w, i32_w]
            rfl
           refine pure_ (i := 2) (N := some 58) (v := ?_) (a' := ?_) #[false, true, true, false, false, false, false, false, false, false, false] rfl rfl (any_of HT_.out (by kernel_rfl)) (fun _ _ _ h => h) (Or.inl ⟨by rfl, ?_⟩) ?_ ?_
           rotate_left
           ·
            intro w'
            go_simp
            with_reducible rfl
           rotate_left
           ·
            simp only [Act.put, List.setIfInBounds_toArray, List.set_cons_zero, List.set_cons_succ, i64_w, i32_w]
            rfl
           refine pure_ (i := 3) (N := some 59) (v := ?_) (a' := ?_) #[false, true, true, true, false, false, false, false, false, false, false] rfl rfl (any_of HT_.out (by kernel_rfl)) (fun _ _ _ h => h) (Or.inl ⟨by rfl, ?_⟩) ?_ ?_
           rotate_left
           ·
            intro w'
            go_simp
            with_reducible rfl
           rotate_left
           ·
            simp only [Act.put, List.setIfInBounds_toArray, List.set_cons_zero, List.set_cons_succ, i64_w, i32_w]
            rfl
           refine take_ (i := 0) (N := some 56) (v := ?_) (a' := ?_) #[true, true, true, true, false, false, false, false, false, false, false] rfl rfl (take_ofW HT_.out HW_.out (by kernel_rfl)) (fun _ _ _ h => h) (Or.inl ⟨by rfl, ?_⟩) hHeld ?_ ?_
           rotate_left
           ·
            rintro w' ⟨s0, s1⟩
            go_simp
            with_reducible rfl
           rotate_left
           ·
            simp only [Act.put, List.setIfInBounds_toArray, List.set_cons_zero, List.set_cons_succ, i64_w, i32_w]
            rfl
           refine join_ (σ := Nat) 2 #[true, true, true, true, true, true, true, true, true, false, false] (fun s_ => [(60, .tuple #[.agg #[.int .i64 t285, .int .i64 t286], .bool true]), (10, .pointer (some ⟨s_, 0, none⟩)), (55, .tuple #[.agg #[.int .i64 t285, .int .i64 t286], .bool true]), (61, .agg #[.int .i64 t285, .int .i64 t286]), (62, .bool true)]) (fun s_ w' => (w'.cell? ⟨gb276, 0, none⟩ = some (.int .i64 t273) ∧ w'.cell? ⟨gb276, 1, none⟩ = some (.int .i64 t274)) ∧ (w'.heap[gb276]? = some (.cells #[.int .i64 t273, .int .i64 t274] 25 (0, 0))) ∧ (w'.heap[gb280]? = some (.cells #[.int .i64 t277, .int .i64 t278] 25 (0, 0))) ∧ (w'.heap[gb284]? = some (.cells #[.int .i64 t281, .int .i64 t282] 25 (0, 0))) ∧ (w'.heap[s_]? = some (.cells #[.int .i64 0, .int .i64 0] 25 (0, 0))) ∧ (w.heap.size ≤ s_) ∧ (w.heap.size ≤ s_) ∧ (gb276 ≠ s_) ∧ (s_ ≠ gb276) ∧ (gb280 ≠ s_) ∧ (s_ ≠ gb280) ∧ (gb284 ≠ s_) ∧ (s_ ≠ gb284) ∧ (Below w.heap.size w w')) ?_ ?_
           rotate_left
           ·
            intro hCont
            refine two_ (i := 4) (j := 8) (Ni := some 60) (Nj := some 10) #[true, true, true, true, true, false, false, false, false, false, false] #[true, true, true, true, false, false, false, false, true, false, false] rfl rfl rfl rfl (two_of HT_.out (by kernel_rfl)) (by decide) (by decide) (fun K hK => ?_) (fun K hK => ?_)
            ·
             skip
             refine goes_ Tryd.func22 (by kernel_rfl) rfl #[.agg #[.int .i64 t273, .int .i64 t274], .string (t275.extract 0 ((ji33) : Int).toNat)] (by rfl) rfl rfl (by (try simp only [List.map_toArray, List.map_cons, List.map_nil]); first | done | (simp only [hji33]; rfl) | rfl | (simp only [List.length_drop, List.length_take]; rfl)) ?_
             with_reducible refine (impl_LongFrom.calls kj5 t273 t274 (t275.extract 0 ((ji33) : Int).toNat) t285 t286 true _ A36.out).mono ?_
             rintro e w180 ⟨rfl, hb⟩
             refine ⟨_, rfl, ?_⟩
             have n0_ := Aside0.mk (blk_below (g := gb276) (o := .cells #[.int .i64 t273, .int .i64 t274] 25 (0, 0)) (kb BK276.out) hb)
             have n1_ := Aside0.mk (blk_below (g := gb280) (o := .cells #[.int .i64 t277, .int .i64 t278] 25 (0, 0)) (kb BK280.out) hb)
             have n2_ := Aside0.mk (blk_below (g := gb284) (o := .cells #[.int .i64 t281, .int .i64 t282] 25 (0, 0)) (kb BK284.out) hb)
             have n3_ := Aside0.mk (below_step (lb3 HB.out GE276.out GE280.out GE284.out) hb)
             clear BK276
             clear BK280
             clear BK284
             clear HB
             have BK276 := n0_
             have BK280 := n1_
             have BK284 := n2_
             have HB := n3_
             clear n0_ n1_ n2_ n3_
             (try clear hb)
             (try clear hb2)
             (try clear hk)
             (try clear hi)
             refine hK.out _ _ ⟨(blk_cell BK276.out 0).trans rfl, (blk_cell BK276.out 1).trans rfl⟩ (fun hHeld => ?_)
             clear hK K
             refine norm_ (a' := ?_) ?_ ?_
             rotate_left
             ·
              show Act.put _ (some 60) _ = _
              simp only [Act.put, List.setIfInBounds_toArray, List.set_cons_zero, List.set_cons_succ, i64_w, i32_w]
              rfl
             refine pure_ (i := 5) (N := some 55) (v := ?_) (a' := ?_) #[true, true, true, true, true, true, false, false, false, false, false] rfl rfl (any_of HT_.out (by kernel_rfl)) (fun _ _ _ h => h) (Or.inl ⟨by rfl, ?_⟩) ?_ ?_
             rotate_left
             ·
              intro w'
              go_simp
              with_reducible rfl
             rotate_left
             ·
              simp only [Act.put, List.setIfInBounds_toArray, List.set_cons_zero, List.set_cons_succ, i64_w, i32_w]
              rfl
             refine pure_ (i := 6) (N := some 61) (v := ?_) (a' := ?_) #[true, true, true, true, true, true, true, false, false, false, false] rfl rfl (any_of HT_.out (by kernel_rfl)) (fun _ _ _ h => h) (Or.inl ⟨by rfl, ?_⟩) ?_ ?_
             rotate_left
             ·
              intro w'
              go_simp
              with_reducible rfl
             rotate_left
             ·
              simp only [Act.put, List.setIfInBounds_toArray, List.set_cons_zero, List.set_cons_succ, i64_w, i32_w]
              rfl
             refine pure_ (i := 7) (N := some 62) (v := ?_) (a' := ?_) #[true, true, true, true, true, true, true, true, false, false, false] rfl rfl (any_of HT_.out (by kernel_rfl)) (fun _ _ _ h => h) (Or.inl ⟨by rfl, ?_⟩) ?_ ?_
             rotate_left
             ·
              intro w'
              go_simp
              with_reducible rfl
             rotate_left
             ·
              simp only [Act.put, List.setIfInBounds_toArray, List.set_cons_zero, List.set_cons_succ, i64_w, i32_w]
              rfl
             refine one_ (i := 8) (N := some 10) #[true, true, true, true, true, true, true, true, true, false, false] rfl rfl (one_of HT_.out (by kernel_rfl)) (by decide) (fun K hK => ?_)
             refine box_step ?hg (N := 10) ?hd (cs := #[.int .i64 0, .int .i64 0]) (t := 25) ?hr ?_; (case hd => rfl); (case hg => rfl); (case hr => first | (go_simp; done) | (go_simp; rfl))
             intro gb288 hg w181 hbox hb
             have n0_ := Aside0.mk (blk_below (g := gb276) (o := .cells #[.int .i64 t273, .int .i64 t274] 25 (0, 0)) (kb BK276.out) hb)
             have n1_ := Aside0.mk (blk_below (g := gb280) (o := .cells #[.int .i64 t277, .int .i64 t278] 25 (0, 0)) (kb BK280.out) hb)
             have n2_ := Aside0.mk (blk_below (g := gb284) (o := .cells #[.int .i64 t281, .int .i64 t282] 25 (0, 0)) (kb BK284.out) hb)
             have n3_ := Aside0.mk (below_step (lb3 HB.out GE276.out GE280.out GE284.out) hb)
             have n4_ := Aside0.mk (hbox)
             have n5_ := Aside0.mk ((by rw [hg]; exact (below_size (lb3 HB.out GE276.out GE280.out GE284.out)) : w.heap.size ≤ gb288))
             have n6_ := Aside0.mk ((by rw [hg]; exact (below_size (lb3 HB.out GE276.out GE280.out GE284.out)) : w.heap.size ≤ gb288))
             have n7_ := Aside0.mk ((by rw [hg]; exact Nat.ne_of_lt (blk_lt (g := gb276) (o := .cells #[.int .i64 t273, .int .i64 t274] 25 (0, 0)) (kb BK276.out)) : gb276 ≠ gb288))
             have n8_ := Aside0.mk ((by rw [hg]; exact Nat.ne_of_gt (blk_lt (g := gb276) (o := .cells #[.int .i64 t273, .int .i64 t274] 25 (0, 0)) (kb BK276.out)) : gb288 ≠ gb276))
             have n9_ := Aside0.mk ((by rw [hg]; exact Nat.ne_of_lt (blk_lt (g := gb280) (o := .cells #[.int .i64 t277, .int .i64 t278] 25 (0, 0)) (kb BK280.out)) : gb280 ≠ gb288))
             have n10_ := Aside0.mk ((by rw [hg]; exact Nat.ne_of_gt (blk_lt (g := gb280) (o := .cells #[.int .i64 t277, .int .i64 t278] 25 (0, 0)) (kb BK280.out)) : gb288 ≠ gb280))
             have n11_ := Aside0.mk ((by rw [hg]; exact Nat.ne_of_lt (blk_lt (g := gb284) (o := .cells #[.int .i64 t281, .int .i64 t282] 25 (0, 0)) (kb BK284.out)) : gb284 ≠ gb288))
             have n12_ := Aside0.mk ((by rw [hg]; exact Nat.ne_of_gt (blk_lt (g := gb284) (o := .cells #[.int .i64 t281, .int .i64 t282] 25 (0, 0)) (kb BK284.out)) : gb288 ≠ gb284))
             clear BK276
             clear BK280
             clear BK284
             clear HB
             have BK276 := n0_
             have BK280 := n1_
             have BK284 := n2_
             have HB := n3_
             have BK288 := n4_
             have GW288 := n5_
             have GE288 := n6_
             have NB276_288 := n7_
             have NB288_276 := n8_
             have NB280_288 := n9_
             have NB288_280 := n10_
             have NB284_288 := n11_
             have NB288_284 := n12_
             clear n0_ n1_ n2_ n3_ n4_ n5_ n6_ n7_ n8_ n9_ n10_ n11_ n12_
             clear hb hbox hg
             refine hK.out _ _ ⟨(blk_cell BK276.out 0).trans rfl, (blk_cell BK276.out 1).trans rfl⟩ (fun hHeld => ?_)
             clear hK K
             refine norm_ (a' := ?_) ?_ ?_
             rotate_left
             ·
              show Act.put _ (some 10) _ = _
              simp only [Act.put, List.setIfInBounds_toArray, List.set_cons_zero, List.set_cons_succ, i64_w, i32_w]
              rfl
             exact norm_ (by simp only [putAll, Act.put, List.setIfInBounds_toArray, List.set_cons_zero, List.set_cons_succ]) (hCont (gb288) _ ⟨hHeld, (kb BK276.out), (kb BK280.out), (kb BK284.out), (kb BK288.out), GW288.out, GE288.out, NB276_288.out, NB288_276.out, NB280_288.out, NB288_280.out, NB284_288.out, NB288_284.out, (lb4 HB.out GE276.out GE280.out GE284.out GE288.out)⟩)
            ·
             skip
             refine box_step ?hg (N := 10) ?hd (cs := #[.int .i64 0, .int .i64 0]) (t := 25) ?hr ?_; (case hd => rfl); (case hg => rfl); (case hr => first | (go_simp; done) | (go_simp; rfl))
             intro gb288 hg w180 hbox hb
             have n0_ := Aside0.mk (blk_below (g := gb276) (o := .cells #[.int .i64 t273, .int .i64 t274] 25 (0, 0)) (kb BK276.out) hb)
             have n1_ := Aside0.mk (blk_below (g := gb280) (o := .cells #[.int .i64 t277, .int .i64 t278] 25 (0, 0)) (kb BK280.out) hb)
             have n2_ := Aside0.mk (blk_below (g := gb284) (o := .cells #[.int .i64 t281, .int .i64 t282] 25 (0, 0)) (kb BK284.out) hb)
             have n3_ := Aside0.mk (below_step (lb3 HB.out GE276.out GE280.out GE284.out) hb)
             have n4_ := Aside0.mk (hbox)
             have n5_ := Aside0.mk ((by rw [hg]; exact (below_size (lb3 HB.out GE276.out GE280.out GE284.out)) : w.heap.size ≤ gb288))
             have n6_ := Aside0.mk ((by rw [hg]; exact (below_size (lb3 HB.out GE276.out GE280.out GE284.out)) : w.heap.size ≤ gb288))
             have n7_ := Aside0.mk ((by rw [hg]; exact Nat.ne_of_lt (blk_lt (g := gb276) (o := .cells #[.int .i64 t273, .int .i64 t274] 25 (0, 0)) (kb BK276.out)) : gb276 ≠ gb288))
             have n8_ := Aside0.mk ((by rw [hg]; exact Nat.ne_of_gt (blk_lt (g := gb276) (o := .cells #[.int .i64 t273, .int .i64 t274] 25 (0, 0)) (kb BK276.out)) : gb288 ≠ gb276))
             have n9_ := Aside0.mk ((by rw [hg]; exact Nat.ne_of_lt (blk_lt (g := gb280) (o := .cells #[.int .i64 t277, .int .i64 t278] 25 (0, 0)) (kb BK280.out)) : gb280 ≠ gb288))
             have n10_ := Aside0.mk ((by rw [hg]; exact Nat.ne_of_gt (blk_lt (g := gb280) (o := .cells #[.int .i64 t277, .int .i64 t278] 25 (0, 0)) (kb BK280.out)) : gb288 ≠ gb280))
             have n11_ := Aside0.mk ((by rw [hg]; exact Nat.ne_of_lt (blk_lt (g := gb284) (o := .cells #[.int .i64 t281, .int .i64 t282] 25 (0, 0)) (kb BK284.out)) : gb284 ≠ gb288))
             have n12_ := Aside0.mk ((by rw [hg]; exact Nat.ne_of_gt (blk_lt (g := gb284) (o := .cells #[.int .i64 t281, .int .i64 t282] 25 (0, 0)) (kb BK284.out)) : gb288 ≠ gb284))
             clear BK276
             clear BK280
             clear BK284
             clear HB
             have BK276 := n0_
             have BK280 := n1_
             have BK284 := n2_
             have HB := n3_
             have BK288 := n4_
             have GW288 := n5_
             have GE288 := n6_
             have NB276_288 := n7_
             have NB288_276 := n8_
             have NB280_288 := n9_
             have NB288_280 := n10_
             have NB284_288 := n11_
             have NB288_284 := n12_
             clear n0_ n1_ n2_ n3_ n4_ n5_ n6_ n7_ n8_ n9_ n10_ n11_ n12_
             clear hb hbox hg
             refine hK.out _ _ ⟨(blk_cell BK276.out 0).trans rfl, (blk_cell BK276.out 1).trans rfl⟩ (fun hHeld => ?_)
             clear hK K
             refine norm_ (a' := ?_) ?_ ?_
             rotate_left
             ·
              show Act.put _ (some 10) _ = _
              simp only [Act.put, List.setIfInBounds_toArray, List.set_cons_zero, List.set_cons_succ, i64_w, i32_w]
              rfl
             refine one_ (i := 4) (N := some 60) #[true, true, true, true, true, false, false, false, true, false, false] rfl rfl (one_of HT_.out (by kernel_rfl)) (by decide) (fun K hK => ?_)
             refine goes_ Tryd.func22 (by kernel_rfl) rfl #[.agg #[.int .i64 t273, .int .i64 t274], .string (t275.extract 0 ((ji33) : Int).toNat)] (by rfl) rfl rfl (by (try simp only [List.map_toArray, List.map_cons, List.map_nil]); first | done | (simp only [hji33]; rfl) | rfl | (simp only [List.length_drop, List.length_take]; rfl)) ?_
             with_reducible refine (impl_LongFrom.calls kj5 t273 t274 (t275.extract 0 ((ji33) : Int).toNat) t285 t286 true _ A36.out).mono ?_
             rintro e w181 ⟨rfl, hb⟩
             refine ⟨_, rfl, ?_⟩
             have n0_ := Aside0.mk (blk_below (g := gb276) (o := .cells #[.int .i64 t273, .int .i64 t274] 25 (0, 0)) (kb BK276.out) hb)
             have n1_ := Aside0.mk (blk_below (g := gb280) (o := .cells #[.int .i64 t277, .int .i64 t278] 25 (0, 0)) (kb BK280.out) hb)
             have n2_ := Aside0.mk (blk_below (g := gb284) (o := .cells #[.int .i64 t281, .int .i64 t282] 25 (0, 0)) (kb BK284.out) hb)
             have n3_ := Aside0.mk (blk_below (g := gb288) (o := .cells #[.int .i64 0, .int .i64 0] 25 (0, 0)) (kb BK288.out) hb)
             have n4_ := Aside0.mk (below_step (lb4 HB.out GE276.out GE280.out GE284.out GE288.out) hb)
             clear BK276
             clear BK280
             clear BK284
             clear BK288
             clear HB
             have BK276 := n0_
             have BK280 := n1_
             have BK284 := n2_
             have BK288 := n3_
             have HB := n4_
             clear n0_ n1_ n2_ n3_ n4_
             (try clear hb)
             (try clear hb2)
             (try clear hk)
             (try clear hi)
             refine hK.out _ _ ⟨(blk_cell BK276.out 0).trans rfl, (blk_cell BK276.out 1).trans rfl⟩ (fun hHeld => ?_)
             clear hK K
             refine norm_ (a' := ?_) ?_ ?_
             rotate_left
             ·
              show Act.put _ (some 60) _ = _
              simp only [Act.put, List.setIfInBounds_toArray, List.set_cons_zero, List.set_cons_succ, i64_w, i32_w]
              rfl
             refine pure_ (i := 5) (N := some 55) (v := ?_) (a' := ?_) #[true, true, true, true, true, true, false, false, true, false, false] rfl rfl (any_of HT_.out (by kernel_rfl)) (fun _ _ _ h => h) (Or.inl ⟨by rfl, ?_⟩) ?_ ?_
             rotate_left
             ·
              intro w'
              go_simp
              with_reducible rfl
             rotate_left
             ·
              simp only [Act.put, List.setIfInBounds_toArray, List.set_cons_zero, List.set_cons_succ, i64_w, i32_w]
              rfl
             refine pure_ (i := 6) (N := some 61) (v := ?_) (a' := ?_) #[true, true, true, true, true, true, true, false, true, false, false] rfl rfl (any_of HT_.out (by kernel_rfl)) (fun _ _ _ h => h) (Or.inl ⟨by rfl, ?_⟩) ?_ ?_
             rotate_left
             ·
              intro w'
              go_simp
              with_reducible rfl
             rotate_left
             ·
              simp only [Act.put, List.setIfInBounds_toArray, List.set_cons_zero, List.set_cons_succ, i64_w, i32_w]
              rfl
             refine pure_ (i := 7) (N := some 62) (v := ?_) (a' := ?_) #[true, true, true, true, true, true, true, true, true, false, false] rfl rfl (any_of HT_.out (by kernel_rfl)) (fun _ _ _ h => h) (Or.inl ⟨by rfl, ?_⟩) ?_ ?_
             rotate_left
             ·
              intro w'
              go_simp
              with_reducible rfl
             rotate_left
             ·
              simp only [Act.put, List.setIfInBounds_toArray, List.set_cons_zero, List.set_cons_succ, i64_w, i32_w]
              rfl
             exact norm_ (by simp only [putAll, Act.put, List.setIfInBounds_toArray, List.set_cons_zero, List.set_cons_succ]) (hCont (gb288) _ ⟨hHeld, (kb BK276.out), (kb BK280.out), (kb BK284.out), (kb BK288.out), GW288.out, GE288.out, NB276_288.out, NB288_276.out, NB280_288.out, NB288_280.out, NB284_288.out, NB288_284.out, (lb4 HB.out GE276.out GE280.out GE284.out GE288.out)⟩)
           rintro gb288 w182 ⟨hS_, h0_, h1_, h2_, h3_, h4_, h5_, h6_, h7_, h8_, h9_, h10_, h11_, h12_⟩
           have n0_ : Aside0 (w182.heap[gb276]? = some (.cells #[.int .i64 t273, .int .i64 t274] 25 (0, 0))) := ⟨h0_⟩
           have n1_ : Aside0 (w182.heap[gb280]? = some (.cells #[.int .i64 t277, .int .i64 t278] 25 (0, 0))) := ⟨h1_⟩
           have n2_ : Aside0 (w182.heap[gb284]? = some (.cells #[.int .i64 t281, .int .i64 t282] 25 (0, 0))) := ⟨h2_⟩
           have n3_ : Aside0 (w182.heap[gb288]? = some (.cells #[.int .i64 0, .int .i64 0] 25 (0, 0))) := ⟨h3_⟩
           have n4_ : Aside0 (w.heap.size ≤ gb288) := ⟨h4_⟩
           have n5_ : Aside0 (w.heap.size ≤ gb288) := ⟨h5_⟩
           have n6_ : Aside0 (gb276 ≠ gb288) := ⟨h6_⟩
           have n7_ : Aside0 (gb288 ≠ gb276) := ⟨h7_⟩
           have n8_ : Aside0 (gb280 ≠ gb288) := ⟨h8_⟩
           have n9_ : Aside0 (gb288 ≠ gb280) := ⟨h9_⟩
           have n10_ : Aside0 (gb284 ≠ gb288) := ⟨h10_⟩
           have n11_ : Aside0 (gb288 ≠ gb284) := ⟨h11_⟩
           have n12_ : Aside0 (Below w.heap.size w w182) := ⟨h12_⟩
           clear BK276
           clear BK280
           clear BK284
           clear HB
           clear h0_ h1_ h2_ h3_ h4_ h5_ h6_ h7_ h8_ h9_ h10_ h11_ h12_
           have BK276 := n0_
           have BK280 := n1_
           have BK284 := n2_
           have BK288 := n3_
           have GW288 := n4_
           have GE288 := n5_
           have NB276_288 := n6_
           have NB288_276 := n7_
           have NB280_288 := n8_
           have NB288_280 := n9_
           have NB284_288 := n10_
           have NB288_284 := n11_
           have HB := n12_
           clear n0_ n1_ n2_ n3_ n4_ n5_ n6_ n7_ n8_ n9_ n10_ n11_ n12_
           have hHeld : w182.cell? ⟨gb276, 0, none⟩ = some (.int .i64 t273) ∧ w182.cell? ⟨gb276, 1, none⟩ = some (.int .i64 t274) := hS_
           refine norm_ (a' := ?_) ?_ ?_
           rotate_left
           ·
            simp only [putAll, Act.put, List.setIfInBounds_toArray, List.set_cons_zero, List.set_cons_succ]
            rfl
           refine one_ (i := 9) (N := none) #[true, true, true, true, true, true, true, true, true, true, false] rfl rfl (one_of HT_.out (by kernel_rfl)) (by decide) (fun K hK => ?_)
           have hs183 : w182.cell? ⟨gb288, 0, none⟩ = some (.int .i64 0) := (blk_cell BK288.out 0).trans rfl
           have hfs183 := blk_frozen BK288.out 0
           have hns183_0 := NB276_288.out
           have hns183_1 := NB280_288.out
           have hns183_2 := NB284_288.out
           have hms183_0 := NB288_276.out
           have hms183_1 := NB288_280.out
           have hms183_2 := NB288_284.out
           have hs184 : w182.cell? ⟨gb288, 1, none⟩ = some (.int .i64 0) := (blk_cell BK288.out 1).trans rfl
           have hfs184 := blk_frozen BK288.out 1
           have hns184_0 := NB276_288.out
           have hns184_1 := NB280_288.out
           have hns184_2 := NB284_288.out
           have hms184_0 := NB288_276.out
           have hms184_1 := NB288_280.out
           have hms184_2 := NB288_284.out
           refine skip_ (w1 := ?_) (by rfl) rfl ?_ ?_
           rotate_left
           ·
            go_simp
            rfl
           refine hK.out _ _ ⟨((cell_far (p := ⟨gb288, _, none⟩) NB276_288.out _).trans (((cell_far (p := ⟨gb288, _, none⟩) NB276_288.out _).trans (hHeld.1)))), ((cell_far (p := ⟨gb288, _, none⟩) NB276_288.out _).trans (((cell_far (p := ⟨gb288, _, none⟩) NB276_288.out _).trans (hHeld.2))))⟩ (fun hHeld => ?_)
           clear hK K
           refine pure_ (i := 10) (N := some 11) (v := ?_) (a' := ?_) #[true, true, true, true, true, true, true, true, true, true, true] rfl rfl (any_of HT_.out (by kernel_rfl)) (fun _ _ _ h => h) (Or.inl ⟨by rfl, ?_⟩) ?_ ?_
           rotate_left
           ·
            intro w'
            go_simp
            with_reducible rfl
           rotate_left
           ·
            simp only [Act.put, List.setIfInBounds_toArray, List.set_cons_zero, List.set_cons_succ, i64_w, i32_w]
            rfl
           refine done_ (done_of HT_.out (by kernel_rfl)) ?_
           try go_wp2
           have n0_ : Aside0 (((w182.setCell ⟨gb288, 0, none⟩ (.int .i64 t285)).setCell ⟨gb288, 1, none⟩ (.int .i64 t286)).heap[gb276]? = some (.cells #[.int .i64 t273, .int .i64 t274] 25 (0, 0))) := ⟨kf1 BK276.out NB276_288.out⟩
           have n1_ : Aside0 (((w182.setCell ⟨gb288, 0, none⟩ (.int .i64 t285)).setCell ⟨gb288, 1, none⟩ (.int .i64 t286)).heap[gb280]? = some (.cells #[.int .i64 t277, .int .i64 t278] 25 (0, 0))) := ⟨kf1 BK280.out NB280_288.out⟩
           have n2_ : Aside0 (((w182.setCell ⟨gb288, 0, none⟩ (.int .i64 t285)).setCell ⟨gb288, 1, none⟩ (.int .i64 t286)).heap[gb284]? = some (.cells #[.int .i64 t281, .int .i64 t282] 25 (0, 0))) := ⟨kf1 BK284.out NB284_288.out⟩
           have n3_ : Aside0 (((w182.setCell ⟨gb288, 0, none⟩ (.int .i64 t285)).setCell ⟨gb288, 1, none⟩ (.int .i64 t286)).heap[gb288]? = some (.cells #[.int .i64 t285, .int .i64 t286] 25 (0, 0))) := ⟨by (with_reducible repeat (first | refine blk_drewN ?_ _ | refine blk_drew ?_ | refine blk_alloc ?_ _)); refine blk_put (cs := #[.int .i64 t285, .int .i64 0]) ?_ 1 _ rfl; (with_reducible repeat (first | refine blk_drewN ?_ _ | refine blk_drew ?_ | refine blk_alloc ?_ _)); refine blk_put (cs := #[.int .i64 0, .int .i64 0]) ?_ 0 _ rfl; (with_reducible repeat (first | refine blk_drewN ?_ _ | refine blk_drew ?_ | refine blk_alloc ?_ _)); exact BK288.out⟩
           have n4_ : Aside0 (Below w.heap.size w ((w182.setCell ⟨gb288, 0, none⟩ (.int .i64 t285)).setCell ⟨gb288, 1, none⟩ (.int .i64 t286))) := ⟨by repeat (first | (with_reducible first | exact HB.out | apply below_alloc | apply pw_below_drewN | apply below_drew1 | refine below_set ?_ GE276.out | refine below_set ?_ GE280.out | refine below_set ?_ GE284.out | refine below_set ?_ GE288.out) | exact HB.out)⟩
           (try clear BK276)
           (try clear BK280)
           (try clear BK284)
           (try clear BK288)
           (try clear HB)
           generalize ((w182.setCell ⟨gb288, 0, none⟩ (.int .i64 t285)).setCell ⟨gb288, 1, none⟩ (.int .i64 t286)) = w185 at n0_ n1_ n2_ n3_ n4_ ⊢
           have BK276 := n0_
           have BK280 := n1_
           have BK284 := n2_
           have BK288 := n3_
           have HB := n4_
           clear n0_ n1_ n2_ n3_ n4_
           have n0_ := Aside0.mk (blk_drew BK276.out)
           have n1_ := Aside0.mk (blk_drew BK280.out)
           have n2_ := Aside0.mk (blk_drew BK284.out)
           have n3_ := Aside0.mk (blk_drew BK288.out)
           have n4_ := Aside0.mk (below_drew1 HB.out)
           clear BK276
           clear BK280
           clear BK284
           clear BK288
           clear HB
           have BK276 := n0_
           have BK280 := n1_
           have BK284 := n2_
           have BK288 := n3_
           have HB := n4_
           clear n0_ n1_ n2_ n3_ n4_
           refine start_ (n := 11) (S := fun w' => w'.cell? ⟨gb288, 0, none⟩ = some (.int .i64 t285) ∧ w'.cell? ⟨gb288, 1, none⟩ = some (.int .i64 t286)) (ds := []) #[false, false, false, false, false, false, false, false, false, false, false] (by kernel_rfl) rfl rfl ⟨(blk_cell BK288.out 0).trans rfl, (blk_cell BK288.out 1).trans rfl⟩ (fun hHeld => ?_); refine with_tabW laws_FnLongFrom.tab12 laws_FnLongFrom.bits12 (fun HT_ HW_ => ?_)
           generalize w185.drew = w186 at BK276 BK280 BK284 BK288 HB hHeld ⊢
           refine pure_ (i := 1) (N := some 65) (v := ?_) (a' := ?_) #[false, true, false, false, false, false, false, false, false, false, false] rfl rfl (any_of HT_.out (by kernel_rfl)) (fun _ _ _ h => h) (Or.inl ⟨by rfl, ?_⟩) ?_ ?_
           rotate_left
           ·
            intro w'
            go_simp
            with_reducible rfl
           rotate_left
           ·
            simp only [Act.put, List.setIfInBounds_toArray, List.set_cons_zero, List.set_cons_succ, i64_w, i32_w]
            rfl
           refine pure_ (i := 2) (N := some 66) (v := ?_) (a' := ?_) #[false, true, true, false, false, false, false, false, false, false, false] rfl rfl (any_of HT_.out (by kernel_rfl)) (fun _ _ _ h => h) (Or.inl ⟨by rfl, ?_⟩) ?_ ?_
           rotate_left
           ·
            intro w'
            go_simp
            with_reducible rfl
           rotate_left
           ·
            simp only [Act.put, List.setIfInBounds_toArray, List.set_cons_zero, List.set_cons_succ, i64_w, i32_w]
            rfl
           refine pure_ (i := 3) (N := some 67) (v := ?_) (a' := ?_) #[false, true, true, true, false, false, false, false, false, false, false] rfl rfl (any_of HT_.out (by kernel_rfl)) (fun _ _ _ h => h) (Or.inl ⟨by rfl, ?_⟩) ?_ ?_
           rotate_left
           ·
            intro w'
            go_simp
            with_reducible rfl
           rotate_left
           ·
            simp only [Act.put, List.setIfInBounds_toArray, List.set_cons_zero, List.set_cons_succ, i64_w, i32_w]
            rfl
           refine take_ (i := 0) (N := some 64) (v := ?_) (a' := ?_) #[true, true, true, true, false, false, false, false, false, false, false] rfl rfl (take_ofW HT_.out HW_.out (by kernel_rfl)) (fun _ _ _ h => h) (Or.inl ⟨by rfl, ?_⟩) hHeld ?_ ?_
           rotate_left
           ·
            rintro w' ⟨s0, s1⟩
            go_simp
            with_reducible rfl
           rotate_left
           ·
            simp only [Act.put, List.setIfInBounds_toArray, List.set_cons_zero, List.set_cons_succ, i64_w, i32_w]
            rfl
           refine join_ (σ := Nat) 2 #[true, true, true, true, true, true, true, true, true, false, false] (fun s_ => [(68, .tuple #[.agg #[.int .i64 t289, .int .i64 t290], .bool false]), (12, .pointer (some ⟨s_, 0, none⟩)), (63, .tuple #[.agg #[.int .i64 t289, .int .i64 t290], .bool false]), (69, .agg #[.int .i64 t289, .int .i64 t290]), (70, .bool false)]) (fun s_ w' => (w'.cell? ⟨gb288, 0, none⟩ = some (.int .i64 t285) ∧ w'.cell? ⟨gb288, 1, none⟩ = some (.int .i64 t286)) ∧ (w'.heap[gb276]? = some (.cells #[.int .i64 t273, .int .i64 t274] 25 (0, 0))) ∧ (w'.heap[gb280]? = some (.cells #[.int .i64 t277, .int .i64 t278] 25 (0, 0))) ∧ (w'.heap[gb284]? = some (.cells #[.int .i64 t281, .int .i64 t282] 25 (0, 0))) ∧ (w'.heap[gb288]? = some (.cells #[.int .i64 t285, .int .i64 t286] 25 (0, 0))) ∧ (w'.heap[s_]? = some (.cells #[.int .i64 0, .int .i64 0] 25 (0, 0))) ∧ (w.heap.size ≤ s_) ∧ (w.heap.size ≤ s_) ∧ (gb276 ≠ s_) ∧ (s_ ≠ gb276) ∧ (gb280 ≠ s_) ∧ (s_ ≠ gb280) ∧ (gb284 ≠ s_) ∧ (s_ ≠ gb284) ∧ (gb288 ≠ s_) ∧ (s_ ≠ gb288) ∧ (Below w.heap.size w w')) ?_ ?_
           rotate_left
           ·
            intro hCont
            refine two_ (i := 4) (j := 8) (Ni := some 68) (Nj := some 12) #[true, true, true, true, true, false, false, false, false, false, false] #[true, true, true, true, false, false, false, false, true, false, false] rfl rfl rfl rfl (two_of HT_.out (by kernel_rfl)) (by decide) (by decide) (fun K hK => ?_) (fun K hK => ?_)
            ·
             skip
             refine goes_ Tryd.func22 (by kernel_rfl) rfl #[.agg #[.int .i64 t285, .int .i64 t286], .string (t275.extract ((ji33) : Int).toNat t275.size)] (by rfl) rfl rfl (by (try simp only [List.map_toArray, List.map_cons, List.map_nil]); first | done | (simp only [hji33]; rfl) | rfl | (simp only [List.length_drop, List.length_take]; rfl)) ?_
             with_reducible refine (impl_LongFrom.calls kj5 t285 t286 (t275.extract ((ji33) : Int).toNat t275.size) t289 t290 false _ A39.out).mono ?_
             rintro e w187 ⟨rfl, hb⟩
             refine ⟨_, rfl, ?_⟩
             have n0_ := Aside0.mk (blk_below (g := gb276) (o := .cells #[.int .i64 t273, .int .i64 t274] 25 (0, 0)) (kb BK276.out) hb)
             have n1_ := Aside0.mk (blk_below (g := gb280) (o := .cells #[.int .i64 t277, .int .i64 t278] 25 (0, 0)) (kb BK280.out) hb)
             have n2_ := Aside0.mk (blk_below (g := gb284) (o := .cells #[.int .i64 t281, .int .i64 t282] 25 (0, 0)) (kb BK284.out) hb)
             have n3_ := Aside0.mk (blk_below (g := gb288) (o := .cells #[.int .i64 t285, .int .i64 t286] 25 (0, 0)) (kb BK288.out) hb)
             have n4_ := Aside0.mk (below_step (lb4 HB.out GE276.out GE280.out GE284.out GE288.out) hb)
             clear BK276
             clear BK280
             clear BK284
             clear BK288
             clear HB
             have BK276 := n0_
             have BK280 := n1_
             have BK284 := n2_
             have BK288 := n3_
             have HB := n4_
             clear n0_ n1_ n2_ n3_ n4_
             (try clear hb)
             (try clear hb2)
             (try clear hk)
             (try clear hi)
             refine hK.out _ _ ⟨(blk_cell BK288.out 0).trans rfl, (blk_cell BK288.out 1).trans rfl⟩ (fun hHeld => ?_)
             clear hK K
             refine norm_ (a' := ?_) ?_ ?_
             rotate_left
             ·
              show Act.put _ (some 68) _ = _
              simp only [Act.put, List.setIfInBounds_toArray, List.set_cons_zero, List.set_cons_succ, i64_w, i32_w]
              rfl
             refine pure_ (i := 5) (N := some 63) (v := ?_) (a' := ?_) #[true, true, true, true, true, true, false, false, false, false, false] rfl rfl (any_of HT_.out (by kernel_rfl)) (fun _ _ _ h => h) (Or.inl ⟨by rfl, ?_⟩) ?_ ?_
             rotate_left
             ·
              intro w'
              go_simp
              with_reducible rfl
             rotate_left
             ·
              simp only [Act.put, List.setIfInBounds_toArray, List.set_cons_zero, List.set_cons_succ, i64_w, i32_w]
              rfl
             refine pure_ (i := 6) (N := some 69) (v := ?_) (a' := ?_) #[true, true, true, true, true, true, true, false, false, false, false] rfl rfl (any_of HT_.out (by kernel_rfl)) (fun _ _ _ h => h) (Or.inl ⟨by rfl, ?_⟩) ?_ ?_
             rotate_left
             ·
              intro w'
              go_simp
              with_reducible rfl
             rotate_left
             ·
              simp only [Act.put, List.setIfInBounds_toArray, List.set_cons_zero, List.set_cons_succ, i64_w, i32_w]
              rfl
             refine pure_ (i := 7) (N := some 70) (v := ?_) (a' := ?_) #[true, true, true, true, true, true, true, true, false, false, false] rfl rfl (any_of HT_.out (by kernel_rfl)) (fun _ _ _ h => h) (Or.inl ⟨by rfl, ?_⟩) ?_ ?_
             rotate_left
             ·
              intro w'
              go_simp
              with_reducible rfl
             rotate_left
             ·
              simp only [Act.put, List.setIfInBounds_toArray, List.set_cons_zero, List.set_cons_succ, i64_w, i32_w]
              rfl
             refine one_ (i := 8) (N := some 12) #[true, true, true, true, true, true, true, true, true, false, false] rfl rfl (one_of HT_.out (by kernel_rfl)) (by decide) (fun K hK => ?_)
             refine box_step ?hg (N := 12) ?hd (cs := #[.int .i64 0, .int .i64 0]) (t := 25) ?hr ?_; (case hd => rfl); (case hg => rfl); (case hr => first | (go_simp; done) | (go_simp; rfl))
             intro gb292 hg w188 hbox hb
             have n0_ := Aside0.mk (blk_below (g := gb276) (o := .cells #[.int .i64 t273, .int .i64 t274] 25 (0, 0)) (kb BK276.out) hb)
             have n1_ := Aside0.mk (blk_below (g := gb280) (o := .cells #[.int .i64 t277, .int .i64 t278] 25 (0, 0)) (kb BK280.out) hb)
             have n2_ := Aside0.mk (blk_below (g := gb284) (o := .cells #[.int .i64 t281, .int .i64 t282] 25 (0, 0)) (kb BK284.out) hb)
             have n3_ := Aside0.mk (blk_below (g := gb288) (o := .cells #[.int .i64 t285, .int .i64 t286] 25 (0, 0)) (kb BK288.out) hb)
             have n4_ := Aside0.mk (below_step (lb4 HB.out GE276.out GE280.out GE284.out GE288.out) hb)
             have n5_ := Aside0.mk (hbox)
             have n6_ := Aside0.mk ((by rw [hg]; exact (below_size (lb4 HB.out GE276.out GE280.out GE284.out GE288.out)) : w.heap.size ≤ gb292))
             have n7_ := Aside0.mk ((by rw [hg]; exact (below_size (lb4 HB.out GE276.out GE280.out GE284.out GE288.out)) : w.heap.size ≤ gb292))
             have n8_ := Aside0.mk ((by rw [hg]; exact Nat.ne_of_lt (blk_lt (g := gb276) (o := .cells #[.int .i64 t273, .int .i64 t274] 25 (0, 0)) (kb BK276.out)) : gb276 ≠ gb292))
             have n9_ := Aside0.mk ((by rw [hg]; exact Nat.ne_of_gt (blk_lt (g := gb276) (o := .cells #[.int .i64 t273, .int .i64 t274] 25 (0, 0)) (kb BK276.out)) : gb292 ≠ gb276))
             have n10_ := Aside0.mk ((by rw [hg]; exact Nat.ne_of_lt (blk_lt (g := gb280) (o := .cells #[.int .i64 t277, .int .i64 t278] 25 (0, 0)) (kb BK280.out)) : gb280 ≠ gb292))
             have n11_ := Aside0.mk ((by rw [hg]; exact Nat.ne_of_gt (blk_lt (g := gb280) (o := .cells #[.int .i64 t277, .int .i64 t278] 25 (0, 0)) (kb BK280.out)) : gb292 ≠ gb280))
             have n12_ := Aside0.mk ((by rw [hg]; exact Nat.ne_of_lt (blk_lt (g := gb284) (o := .cells #[.int .i64 t281, .int .i64 t282] 25 (0, 0)) (kb BK284.out)) : gb284 ≠ gb292))
             have n13_ := Aside0.mk ((by rw [hg]; exact Nat.ne_of_gt (blk_lt (g := gb284) (o := .cells #[.int .i64 t281, .int .i64 t282] 25 (0, 0)) (kb BK284.out)) : gb292 ≠ gb284))
             have n14_ := Aside0.mk ((by rw [hg]; exact Nat.ne_of_lt (blk_lt (g := gb288) (o := .cells #[.int .i64 t285, .int .i64 t286] 25 (0, 0)) (kb BK288.out)) : gb288 ≠ gb292))
             have n15_ := Aside0.mk ((by rw [hg]; exact Nat.ne_of_gt (blk_lt (g := gb288) (o := .cells #[.int .i64 t285, .int .i64 t286] 25 (0, 0)) (kb BK288.out)) : gb292 ≠ gb288))
             clear BK276
             clear BK280
             clear BK284
             clear BK288
             clear HB
             have BK276 := n0_
             have BK280 := n1_
             have BK284 := n2_
             have BK288 := n3_
             have HB := n4_
             have BK292 := n5_
             have GW292 := n6_
             have GE292 := n7_
             have NB276_292 := n8_
             have NB292_276 := n9_
             have NB280_292 := n10_
             have NB292_280 := n11_
             have NB284_292 := n12_
             have NB292_284 := n13_
             have NB288_292 := n14_
             have NB292_288 := n15_
             clear n0_ n1_ n2_ n3_ n4_ n5_ n6_ n7_ n8_ n9_ n10_ n11_ n12_ n13_ n14_ n15_
             clear hb hbox hg
             refine hK.out _ _ ⟨(blk_cell BK288.out 0).trans rfl, (blk_cell BK288.out 1).trans rfl⟩ (fun hHeld => ?_)
             clear hK K
             refine norm_ (a' := ?_) ?_ ?_
             rotate_left
             ·
              show Act.put _ (some 12) _ = _
              simp only [Act.put, List.setIfInBounds_toArray, List.set_cons_zero, List.set_cons_succ, i64_w, i32_w]
              rfl
             exact norm_ (by simp only [putAll, Act.put, List.setIfInBounds_toArray, List.set_cons_zero, List.set_cons_succ]) (hCont (gb292) _ ⟨hHeld, (kb BK276.out), (kb BK280.out), (kb BK284.out), (kb BK288.out), (kb BK292.out), GW292.out, GE292.out, NB276_292.out, NB292_276.out, NB280_292.out, NB292_280.out, NB284_292.out, NB292_284.out, NB288_292.out, NB292_288.out, (lb5 HB.out GE276.out GE280.out GE284.out GE288.out GE292.out)⟩)
            ·
             skip
             refine box_step ?hg (N := 12) ?hd (cs := #[.int .i64 0, .int .i64 0]) (t := 25) ?hr ?_; (case hd => rfl); (case hg => rfl); (case hr => first | (go_simp; done) | (go_simp; rfl))
             intro gb292 hg w187 hbox hb
             have n0_ := Aside0.mk (blk_below (g := gb276) (o := .cells #[.int .i64 t273, .int .i64 t274] 25 (0, 0)) (kb BK276.out) hb)
             have n1_ := Aside0.mk (blk_below (g := gb280) (o := .cells #[.int .i64 t277, .int .i64 t278] 25 (0, 0)) (kb BK280.out) hb)
             have n2_ := Aside0.mk (blk_below (g := gb284) (o := .cells #[.int .i64 t281, .int .i64 t282] 25 (0, 0)) (kb BK284.out) hb)
             have n3_ := Aside0.mk (blk_below (g := gb288) (o := .cells #[.int .i64 t285, .int .i64 t286] 25 (0, 0)) (kb BK288.out) hb)
             have n4_ := Aside0.mk (below_step (lb4 HB.out GE276.out GE280.out GE284.out GE288.out) hb)
             have n5_ := Aside0.mk (hbox)
             have n6_ := Aside0.mk ((by rw [hg]; exact (below_size (lb4 HB.out GE276.out GE280.out GE284.out GE288.out)) : w.heap.size ≤ gb292))
             have n7_ := Aside0.mk ((by rw [hg]; exact (below_size (lb4 HB.out GE276.out GE280.out GE284.out GE288.out)) : w.heap.size ≤ gb292))
             have n8_ := Aside0.mk ((by rw [hg]; exact Nat.ne_of_lt (blk_lt (g := gb276) (o := .cells #[.int .i64 t273, .int .i64 t274] 25 (0, 0)) (kb BK276.out)) : gb276 ≠ gb292))
             have n9_ := Aside0.mk ((by rw [hg]; exact Nat.ne_of_gt (blk_lt (g := gb276) (o := .cells #[.int .i64 t273, .int .i64 t274] 25 (0, 0)) (kb BK276.out)) : gb292 ≠ gb276))
             have n10_ := Aside0.mk ((by rw [hg]; exact Nat.ne_of_lt (blk_lt (g := gb280) (o := .cells #[.int .i64 t277, .int .i64 t278] 25 (0, 0)) (kb BK280.out)) : gb280 ≠ gb292))
             have n11_ := Aside0.mk ((by rw [hg]; exact Nat.ne_of_gt (blk_lt (g := gb280) (o := .cells #[.int .i64 t277, .int .i64 t278] 25 (0, 0)) (kb BK280.out)) : gb292 ≠ gb280))
             have n12_ := Aside0.mk ((by rw [hg]; exact Nat.ne_of_lt (blk_lt (g := gb284) (o := .cells #[.int .i64 t281, .int .i64 t282] 25 (0, 0)) (kb BK284.out)) : gb284 ≠ gb292))
             have n13_ := Aside0.mk ((by rw [hg]; exact Nat.ne_of_gt (blk_lt (g := gb284) (o := .cells #[.int .i64 t281, .int .i64 t282] 25 (0, 0)) (kb BK284.out)) : gb292 ≠ gb284))
             have n14_ := Aside0.mk ((by rw [hg]; exact Nat.ne_of_lt (blk_lt (g := gb288) (o := .cells #[.int .i64 t285, .int .i64 t286] 25 (0, 0)) (kb BK288.out)) : gb288 ≠ gb292))
             have n15_ := Aside0.mk ((by rw [hg]; exact Nat.ne_of_gt (blk_lt (g := gb288) (o := .cells #[.int .i64 t285, .int .i64 t286] 25 (0, 0)) (kb BK288.out)) : gb292 ≠ gb288))
             clear BK276
             clear BK280
             clear BK284
             clear BK288
             clear HB
             have BK276 := n0_
             have BK280 := n1_
             have BK284 := n2_
             have BK288 := n3_
             have HB := n4_
             have BK292 := n5_
             have GW292 := n6_
             have GE292 := n7_
             have NB276_292 := n8_
             have NB292_276 := n9_
             have NB280_292 := n10_
             have NB292_280 := n11_
             have NB284_292 := n12_
             have NB292_284 := n13_
             have NB288_292 := n14_
             have NB292_288 := n15_
             clear n0_ n1_ n2_ n3_ n4_ n5_ n6_ n7_ n8_ n9_ n10_ n11_ n12_ n13_ n14_ n15_
             clear hb hbox hg
             refine hK.out _ _ ⟨(blk_cell BK288.out 0).trans rfl, (blk_cell BK288.out 1).trans rfl⟩ (fun hHeld => ?_)
             clear hK K
             refine norm_ (a' := ?_) ?_ ?_
             rotate_left
             ·
              show Act.put _ (some 12) _ = _
              simp only [Act.put, List.setIfInBounds_toArray, List.set_cons_zero, List.set_cons_succ, i64_w, i32_w]
              rfl
             refine one_ (i := 4) (N := some 68) #[true, true, true, true, true, false, false, false, true, false, false] rfl rfl (one_of HT_.out (by kernel_rfl)) (by decide) (fun K hK => ?_)
             refine goes_ Tryd.func22 (by kernel_rfl) rfl #[.agg #[.int .i64 t285, .int .i64 t286], .string (t275.extract ((ji33) : Int).toNat t275.size)] (by rfl) rfl rfl (by (try simp only [List.map_toArray, List.map_cons, List.map_nil]); first | done | (simp only [hji33]; rfl) | rfl | (simp only [List.length_drop, List.length_take]; rfl)) ?_
             with_reducible refine (impl_LongFrom.calls kj5 t285 t286 (t275.extract ((ji33) : Int).toNat t275.size) t289 t290 false _ A39.out).mono ?_
             rintro e w188 ⟨rfl, hb⟩
             refine ⟨_, rfl, ?_⟩
             have n0_ := Aside0.mk (blk_below (g := gb276) (o := .cells #[.int .i64 t273, .int .i64 t274] 25 (0, 0)) (kb BK276.out) hb)
             have n1_ := Aside0.mk (blk_below (g := gb280) (o := .cells #[.int .i64 t277, .int .i64 t278] 25 (0, 0)) (kb BK280.out) hb)
             have n2_ := Aside0.mk (blk_below (g := gb284) (o := .cells #[.int .i64 t281, .int .i64 t282] 25 (0, 0)) (kb BK284.out) hb)
             have n3_ := Aside0.mk (blk_below (g := gb288) (o := .cells #[.int .i64 t285, .int .i64 t286] 25 (0, 0)) (kb BK288.out) hb)
             have n4_ := Aside0.mk (blk_below (g := gb292) (o := .cells #[.int .i64 0, .int .i64 0] 25 (0, 0)) (kb BK292.out) hb)
             have n5_ := Aside0.mk (below_step (lb5 HB.out GE276.out GE280.out GE284.out GE288.out GE292.out) hb)
             clear BK276
             clear BK280
             clear BK284
             clear BK288
             clear BK292
             clear HB
             have BK276 := n0_
             have BK280 := n1_
             have BK284 := n2_
             have BK288 := n3_
             have BK292 := n4_
             have HB := n5_
             clear n0_ n1_ n2_ n3_ n4_ n5_
             (try clear hb)
             (try clear hb2)
             (try clear hk)
             (try clear hi)
             refine hK.out _ _ ⟨(blk_cell BK288.out 0).trans rfl, (blk_cell BK288.out 1).trans rfl⟩ (fun hHeld => ?_)
             clear hK K
             refine norm_ (a' := ?_) ?_ ?_
             rotate_left
             ·
              show Act.put _ (some 68) _ = _
              simp only [Act.put, List.setIfInBounds_toArray, List.set_cons_zero, List.set_cons_succ, i64_w, i32_w]
              rfl
             refine pure_ (i := 5) (N := some 63) (v := ?_) (a' := ?_) #[true, true, true, true, true, true, false, false, true, false, false] rfl rfl (any_of HT_.out (by kernel_rfl)) (fun _ _ _ h => h) (Or.inl ⟨by rfl, ?_⟩) ?_ ?_
             rotate_left
             ·
              intro w'
              go_simp
              with_reducible rfl
             rotate_left
             ·
              simp only [Act.put, List.setIfInBounds_toArray, List.set_cons_zero, List.set_cons_succ, i64_w, i32_w]
              rfl
             refine pure_ (i := 6) (N := some 69) (v := ?_) (a' := ?_) #[true, true, true, true, true, true, true, false, true, false, false] rfl rfl (any_of HT_.out (by kernel_rfl)) (fun _ _ _ h => h) (Or.inl ⟨by rfl, ?_⟩) ?_ ?_
             rotate_left
             ·
              intro w'
              go_simp
              with_reducible rfl
             rotate_left
             ·
              simp only [Act.put, List.setIfInBounds_toArray, List.set_cons_zero, List.set_cons_succ, i64_w, i32_w]
              rfl
             refine pure_ (i := 7) (N := some 70) (v := ?_) (a' := ?_) #[true, true, true, true, true, true, true, true, true, false, false] rfl rfl (any_of HT_.out (by kernel_rfl)) (fun _ _ _ h => h) (Or.inl ⟨by rfl, ?_⟩) ?_ ?_
             rotate_left
             ·
              intro w'
              go_simp
              with_reducible rfl
             rotate_left
             ·
              simp only [Act.put, List.setIfInBounds_toArray, List.set_cons_zero, List.set_cons_succ, i64_w, i32_w]
              rfl
             exact norm_ (by simp only [putAll, Act.put, List.setIfInBounds_toArray, List.set_cons_zero, List.set_cons_succ]) (hCont (gb292) _ ⟨hHeld, (kb BK276.out), (kb BK280.out), (kb BK284.out), (kb BK288.out), (kb BK292.out), GW292.out, GE292.out, NB276_292.out, NB292_276.out, NB280_292.out, NB292_280.out, NB284_292.out, NB292_284.out, NB288_292.out, NB292_288.out, (lb5 HB.out GE276.out GE280.out GE284.out GE288.out GE292.out)⟩)
           rintro gb292 w189 ⟨hS_, h0_, h1_, h2_, h3_, h4_, h5_, h6_, h7_, h8_, h9_, h10_, h11_, h12_, h13_, h14_, h15_⟩
           have n0_ : Aside0 (w189.heap[gb276]? = some (.cells #[.int .i64 t273, .int .i64 t274] 25 (0, 0))) := ⟨h0_⟩
           have n1_ : Aside0 (w189.heap[gb280]? = some (.cells #[.int .i64 t277, .int .i64 t278] 25 (0, 0))) := ⟨h1_⟩
           have n2_ : Aside0 (w189.heap[gb284]? = some (.cells #[.int .i64 t281, .int .i64 t282] 25 (0, 0))) := ⟨h2_⟩
           have n3_ : Aside0 (w189.heap[gb288]? = some (.cells #[.int .i64 t285, .int .i64 t286] 25 (0, 0))) := ⟨h3_⟩
           have n4_ : Aside0 (w189.heap[gb292]? = some (.cells #[.int .i64 0, .int .i64 0] 25 (0, 0))) := ⟨h4_⟩
           have n5_ : Aside0 (w.heap.size ≤ gb292) := ⟨h5_⟩
           have n6_ : Aside0 (w.heap.size ≤ gb292) := ⟨h6_⟩
           have n7_ : Aside0 (gb276 ≠ gb292) := ⟨h7_⟩
           have n8_ : Aside0 (gb292 ≠ gb276) := ⟨h8_⟩
           have n9_ : Aside0 (gb280 ≠ gb292) := ⟨h9_⟩
           have n10_ : Aside0 (gb292 ≠ gb280) := ⟨h10_⟩
           have n11_ : Aside0 (gb284 ≠ gb292) := ⟨h11_⟩
           have n12_ : Aside0 (gb292 ≠ gb284) := ⟨h12_⟩
           have n13_ : Aside0 (gb288 ≠ gb292) := ⟨h13_⟩
           have n14_ : Aside0 (gb292 ≠ gb288) := ⟨h14_⟩
           have n15_ : Aside0 (Below w.heap.size w w189) := ⟨h15_⟩
           clear BK276
           clear BK280
           clear BK284
           clear BK288
           clear HB
           clear h0_ h1_ h2_ h3_ h4_ h5_ h6_ h7_ h8_ h9_ h10_ h11_ h12_ h13_ h14_ h15_
           have BK276 := n0_
           have BK280 := n1_
           have BK284 := n2_
           have BK288 := n3_
           have BK292 := n4_
           have GW292 := n5_
           have GE292 := n6_
           have NB276_292 := n7_
           have NB292_276 := n8_
           have NB280_292 := n9_
           have NB292_280 := n10_
           have NB284_292 := n11_
           have NB292_284 := n12_
           have NB288_292 := n13_
           have NB292_288 := n14_
           have HB := n15_
           clear n0_ n1_ n2_ n3_ n4_ n5_ n6_ n7_ n8_ n9_ n10_ n11_ n12_ n13_ n14_ n15_
           have hHeld : w189.cell? ⟨gb288, 0, none⟩ = some (.int .i64 t285) ∧ w189.cell? ⟨gb288, 1, none⟩ = some (.int .i64 t286) := hS_
           refine norm_ (a' := ?_) ?_ ?_
           rotate_left
           ·
            simp only [putAll, Act.put, List.setIfInBounds_toArray, List.set_cons_zero, List.set_cons_succ]
            rfl
           refine one_ (i := 9) (N := none) #[true, true, true, true, true, true, true, true, true, true, false] rfl rfl (one_of HT_.out (by kernel_rfl)) (by decide) (fun K hK => ?_)
           have hs190 : w189.cell? ⟨gb292, 0, none⟩ = some (.int .i64 0) := (blk_cell BK292.out 0).trans rfl
           have hfs190 := blk_frozen BK292.out 0
           have hns190_0 := NB276_292.out
           have hns190_1 := NB280_292.out
           have hns190_2 := NB284_292.out
           have hns190_3 := NB288_292.out
           have hms190_0 := NB292_276.out
           have hms190_1 := NB292_280.out
           have hms190_2 := NB292_284.out
           have hms190_3 := NB292_288.out
           have hs191 : w189.cell? ⟨gb292, 1, none⟩ = some (.int .i64 0) := (blk_cell BK292.out 1).trans rfl
           have hfs191 := blk_frozen BK292.out 1
           have hns191_0 := NB276_292.out
           have hns191_1 := NB280_292.out
           have hns191_2 := NB284_292.out
           have hns191_3 := NB288_292.out
           have hms191_0 := NB292_276.out
           have hms191_1 := NB292_280.out
           have hms191_2 := NB292_284.out
           have hms191_3 := NB292_288.out
           refine skip_ (w1 := ?_) (by rfl) rfl ?_ ?_
           rotate_left
           ·
            go_simp
            rfl
           refine hK.out _ _ ⟨((cell_far (p := ⟨gb292, _, none⟩) NB288_292.out _).trans (((cell_far (p := ⟨gb292, _, none⟩) NB288_292.out _).trans (hHeld.1)))), ((cell_far (p := ⟨gb292, _, none⟩) NB288_292.out _).trans (((cell_far (p := ⟨gb292, _, none⟩) NB288_292.out _).trans (hHeld.2))))⟩ (fun hHeld => ?_)
           clear hK K
           refine pure_ (i := 10) (N := some 13) (v := ?_) (a' := ?_) #[true, true, true, true, true, true, true, true, true, true, true] rfl rfl (any_of HT_.out (by kernel_rfl)) (fun _ _ _ h => h) (Or.inl ⟨by rfl, ?_⟩) ?_ ?_
           rotate_left
           ·
            intro w'
            go_simp
            with_reducible rfl
           rotate_left
           ·
            simp only [Act.put, List.setIfInBounds_toArray, List.set_cons_zero, List.set_cons_succ, i64_w, i32_w]
            rfl
           refine done_ (done_of HT_.out (by kernel_rfl)) ?_
           have hnb192 := NB276_280.out
           have hnc192 := NB280_276.out
           have hnb193 := NB276_284.out
           have hnc193 := NB284_276.out
           have hnb194 := NB276_288.out
           have hnc194 := NB288_276.out
           have hnb195 := NB276_292.out
           have hnc195 := NB292_276.out
           have hcz196_0 : w189.cell? ⟨gb276, 0, none⟩ = some (.int .i64 t273) := (blk_cell BK276.out 0).trans rfl
           have hcz196_1 : w189.cell? ⟨gb276, 1, none⟩ = some (.int .i64 t274) := (blk_cell BK276.out 1).trans rfl
           have hfz196_0 := blk_frozen BK276.out 0
           have hfz196_1 := blk_frozen BK276.out 1
           try go_wp2_with (first | ((with_reducible refine gate_callee (f := 19) rfl ?_); refine goesL_ (some 74) rfl rfl Tryd.func19 (by kernel_rfl) rfl #[.agg #[.int .i64 t273, .int .i64 t274], .string t275] rfl (by (try simp only [List.map_toArray, List.map_cons, List.map_nil]); first | done | rfl | (simp only [List.length_drop, List.length_take]; rfl)) ?_; (with_reducible refine (impl_DancedFrom.calls kj5 t273 t274 t275 t293 t294 t295 _ A40.out).mono ?_); rintro e w197 ⟨rfl, hb⟩; refine ⟨_, rfl, ?_⟩; have n0_ := Aside0.mk (blk_below (g := gb276) (o := .cells #[.int .i64 t273, .int .i64 t274] 25 (0, 0)) (kf1 BK276.out NB276_292.out) hb); have n1_ := Aside0.mk (blk_below (g := gb280) (o := .cells #[.int .i64 t277, .int .i64 t278] 25 (0, 0)) (kf1 BK280.out NB280_292.out) hb); have n2_ := Aside0.mk (blk_below (g := gb284) (o := .cells #[.int .i64 t281, .int .i64 t282] 25 (0, 0)) (kf1 BK284.out NB284_292.out) hb); have n3_ := Aside0.mk (blk_below (g := gb288) (o := .cells #[.int .i64 t285, .int .i64 t286] 25 (0, 0)) (kf1 BK288.out NB288_292.out) hb); have n4_ := Aside0.mk (blk_below (g := gb292) (o := .cells #[.int .i64 t289, .int .i64 t290] 25 (0, 0)) (by (with_reducible repeat (first | refine blk_drewN ?_ _ | refine blk_drew ?_ | refine blk_alloc ?_ _)); refine blk_put (cs := #[.int .i64 t289, .int .i64 0]) ?_ 1 _ rfl; (with_reducible repeat (first | refine blk_drewN ?_ _ | refine blk_drew ?_ | refine blk_alloc ?_ _)); refine blk_put (cs := #[.int .i64 0, .int .i64 0]) ?_ 0 _ rfl; (with_reducible repeat (first | refine blk_drewN ?_ _ | refine blk_drew ?_ | refine blk_alloc ?_ _)); exact BK292.out) hb); have n5_ := Aside0.mk (below_step (lb5 HB.out GE276.out GE280.out GE284.out GE288.out GE292.out) hb); clear BK276; clear BK280; clear BK284; clear BK288; clear BK292; clear HB; have BK276 := n0_; have BK280 := n1_; have BK284 := n2_; have BK288 := n3_; have BK292 := n4_; have HB := n5_; clear n0_ n1_ n2_ n3_ n4_ n5_; (try clear hb); (try clear hb2); (try clear hk); (try clear hi)) | ((with_reducible refine gate_dst (N := 14) rfl ?_); (try (refine gate_guard (by rfl) ?_; dsimp only)); refine box_event ?hg (N := 14) ?hd (cs := #[.int .i64 0, .int .i64 0]) (t := 25) ?hr ?_; (case hd => rfl); (case hg => rfl); (case hr => first | (go_simp; done) | (go_simp; rfl)); intro gb296 hg w198 hbox hb; have n0_ := Aside0.mk (blk_below (g := gb276) (o := .cells #[.int .i64 t273, .int .i64 t274] 25 (0, 0)) (kb BK276.out) hb); have n1_ := Aside0.mk (blk_below (g := gb280) (o := .cells #[.int .i64 t277, .int .i64 t278] 25 (0, 0)) (kb BK280.out) hb); have n2_ := Aside0.mk (blk_below (g := gb284) (o := .cells #[.int .i64 t281, .int .i64 t282] 25 (0, 0)) (kb BK284.out) hb); have n3_ := Aside0.mk (blk_below (g := gb288) (o := .cells #[.int .i64 t285, .int .i64 t286] 25 (0, 0)) (kb BK288.out) hb); have n4_ := Aside0.mk (blk_below (g := gb292) (o := .cells #[.int .i64 t289, .int .i64 t290] 25 (0, 0)) (kb BK292.out) hb); have n5_ := Aside0.mk (below_step (lb5 HB.out GE276.out GE280.out GE284.out GE288.out GE292.out) hb); have n6_ := Aside0.mk (hbox); have n7_ := Aside0.mk ((by rw [hg]; exact (below_size (lb5 HB.out GE276.out GE280.out GE284.out GE288.out GE292.out)) : w.heap.size ≤ gb296)); have n8_ := Aside0.mk ((by rw [hg]; exact (below_size (lb5 HB.out GE276.out GE280.out GE284.out GE288.out GE292.out)) : w.heap.size ≤ gb296)); have n9_ := Aside0.mk ((by rw [hg]; exact Nat.ne_of_lt (blk_lt (g := gb276) (o := .cells #[.int .i64 t273, .int .i64 t274] 25 (0, 0)) (kb BK276.out)) : gb276 ≠ gb296)); have n10_ := Aside0.mk ((by rw [hg]; exact Nat.ne_of_gt (blk_lt (g := gb276) (o := .cells #[.int .i64 t273, .int .i64 t274] 25 (0, 0)) (kb BK276.out)) : gb296 ≠ gb276)); have n11_ := Aside0.mk ((by rw [hg]; exact Nat.ne_of_lt (blk_lt (g := gb280) (o := .cells #[.int .i64 t277, .int .i64 t278] 25 (0, 0)) (kb BK280.out)) : gb280 ≠ gb296)); have n12_ := Aside0.mk ((by rw [hg]; exact Nat.ne_of_gt (blk_lt (g := gb280) (o := .cells #[.int .i64 t277, .int .i64 t278] 25 (0, 0)) (kb BK280.out)) : gb296 ≠ gb280)); have n13_ := Aside0.mk ((by rw [hg]; exact Nat.ne_of_lt (blk_lt (g := gb284) (o := .cells #[.int .i64 t281, .int .i64 t282] 25 (0, 0)) (kb BK284.out)) : gb284 ≠ gb296)); have n14_ := Aside0.mk ((by rw [hg]; exact Nat.ne_of_gt (blk_lt (g := gb284) (o := .cells #[.int .i64 t281, .int .i64 t282] 25 (0, 0)) (kb BK284.out)) : gb296 ≠ gb284)); have n15_ := Aside0.mk ((by rw [hg]; exact Nat.ne_of_lt (blk_lt (g := gb288) (o := .cells #[.int .i64 t285, .int .i64 t286] 25 (0, 0)) (kb BK288.out)) : gb288 ≠ gb296)); have n16_ := Aside0.mk ((by rw [hg]; exact Nat.ne_of_gt (blk_lt (g := gb288) (o := .cells #[.int .i64 t285, .int .i64 t286] 25 (0, 0)) (kb BK288.out)) : gb296 ≠ gb288)); have n17_ := Aside0.mk ((by rw [hg]; exact Nat.ne_of_lt (blk_lt (g := gb292) (o := .cells #[.int .i64 t289, .int .i64 t290] 25 (0, 0)) (kb BK292.out)) : gb292 ≠ gb296)); have n18_ := Aside0.mk ((by rw [hg]; exact Nat.ne_of_gt (blk_lt (g := gb292) (o := .cells #[.int .i64 t289, .int .i64 t290] 25 (0, 0)) (kb BK292.out)) : gb296 ≠ gb292)); clear BK276; clear BK280; clear BK284; clear BK288; clear BK292; clear HB; have BK276 := n0_; have BK280 := n1_; have BK284 := n2_; have BK288 := n3_; have BK292 := n4_; have HB := n5_; have BK296 := n6_; have GW296 := n7_; have GE296 := n8_; have NB276_296 := n9_; have NB296_276 := n10_; have NB280_296 := n11_; have NB296_280 := n12_; have NB284_296 := n13_; have NB296_284 := n14_; have NB288_296 := n15_; have NB296_288 := n16_; have NB292_296 := n17_; have NB296_292 := n18_; clear n0_ n1_ n2_ n3_ n4_ n5_ n6_ n7_ n8_ n9_ n10_ n11_ n12_ n13_ n14_ n15_ n16_ n17_ n18_; clear hb hbox hg; have hnb199 := NB296_276.out; have hnc199 := NB276_296.out; have hnb200 := NB296_280.out; have hnc200 := NB280_296.out; have hnb201 := NB296_284.out; have hnc201 := NB284_296.out; have hnb202 := NB296_288.out; have hnc202 := NB288_296.out; have hnb203 := NB296_292.out; have hnc203 := NB292_296.out; have hcz204_0 : w198.cell? ⟨gb296, 0, none⟩ = some (.int .i64 0) := (blk_cell BK296.out 0).trans rfl; have hcz204_1 : w198.cell? ⟨gb296, 1, none⟩ = some (.int .i64 0) := (blk_cell BK296.out 1).trans rfl; have hfz204_0 := blk_frozen BK296.out 0; have hfz204_1 := blk_frozen BK296.out 1))
           go_ret
           exact ⟨by first | rfl | (simp [errW_none, errW_some] <;> rfl) | (simp only [← hji33]; first | rfl | (simp [errW_none, errW_some] <;> rfl)) | (simp [*, errW_none, errW_some] <;> rfl), by repeat (first | (with_reducible first | exact HB.out | apply below_alloc | apply pw_below_drewN | apply below_drew1 | refine below_set ?_ GE276.out | refine below_set ?_ GE280.out | refine below_set ?_ GE284.out | refine below_set ?_ GE288.out | refine below_set ?_ GE292.out | refine below_set ?_ GE296.out) | exact HB.out)⟩
          ·
           rw [if_neg c178] at H
           have c178b0 : decide (40 < (t275.size : Int)) = false := decide_eq_false c178
           have c178b1 : decide (40 < t275.size) = false := decide_eq_false (by omega)
           clear c178
           by_cases c205 : t295 = true
           ·
            subst c205
            have H1 : (some (t293 == t277 && (t294 == t278))) = some r := by rw [if_pos rfl] at H; exact H
            clear H
            have H := H1
            clear H1
            obtain rfl := Option.some.inj H
            try go_wp2
            have n0_ := Aside0.mk (blk_drew BK276.out)
            have n1_ := Aside0.mk (blk_drew BK280.out)
            have n2_ := Aside0.mk (blk_drew BK284.out)
            have n3_ := Aside0.mk (below_drew1 HB.out)
            clear BK276
            clear BK280
            clear BK284
            clear HB
            have BK276 := n0_
            have BK280 := n1_
            have BK284 := n2_
            have HB := n3_
            clear n0_ n1_ n2_ n3_
            refine start_ (n := 11) (S := fun w' => w'.cell? ⟨gb276, 0, none⟩ = some (.int .i64 t273) ∧ w'.cell? ⟨gb276, 1, none⟩ = some (.int .i64 t274)) (ds := []) #[false, false, false, false, false, false, false, false, false, false, false] (by kernel_rfl) rfl rfl ⟨(blk_cell BK276.out 0).trans rfl, (blk_cell BK276.out 1).trans rfl⟩ (fun hHeld => ?_); refine with_tabW laws_FnLongFrom.tab11 laws_FnLongFrom.bits11 (fun HT_ HW_ => ?_)
            generalize wc.drew = w206 at BK276 BK280 BK284 HB hHeld ⊢
            refine pure_ (i := 1) (N := some 57) (v := ?_) (a' := ?_) #[false, true, false, false, false, false, false, false, false, false, false] rfl rfl (any_of HT_.out (by kernel_rfl)) (fun _ _ _ h => h) (Or.inl ⟨by rfl, ?_⟩) ?_ ?_
            rotate_left
            ·
             intro w'
             go_simp
             with_reducible rfl
            rotate_left
            ·
             simp only [Act.put, List.setIfInBounds_toArray, List.set_cons_zero, List.set_cons_succ, i64_w, i32_w]
             rfl
            refine pure_ (i := 2) (N := some 58) (v := ?_) (a' := ?_) #[false, true, true, false, false, false, false, false, false, false, false] rfl rfl (any_of HT_.out (by kernel_rfl)) (fun _ _ _ h => h) (Or.inl ⟨by rfl, ?_⟩) ?_ ?_
            rotate_left
            ·
             intro w'
             go_simp
             with_reducible rfl
            rotate_left
            ·
             simp only [Act.put, List.setIfInBounds_toArray, List.set_cons_zero, List.set_cons_succ, i64_w, i32_w]
             rfl
            refine pure_ (i := 3) (N := some 59) (v := ?_) (a' := ?_) #[false, true, true, true, false, false, false, false, false, false, false] rfl rfl (any_of HT_.out (by kernel_rfl)) (fun _ _ _ h => h) (Or.inl ⟨by rfl, ?_⟩) ?_ ?_
            rotate_left
            ·
             intro w'
             go_simp
             with_reducible rfl
            rotate_left
            ·
             simp only [Act.put, List.setIfInBounds_toArray, List.set_cons_zero, List.set_cons_succ, i64_w, i32_w]
             rfl
            refine take_ (i := 0) (N := some 56) (v := ?_) (a' := ?_) #[true, true, true, true, false, false, false, false, false, false, false] rfl rfl (take_ofW HT_.out HW_.out (by kernel_rfl)) (fun _ _ _ h => h) (Or.inl ⟨by rfl, ?_⟩) hHeld ?_ ?_
            rotate_left
            ·
             rintro w' ⟨s0, s1⟩
             go_simp
             with_reducible rfl
            rotate_left
            ·
             simp only [Act.put, List.setIfInBounds_toArray, List.set_cons_zero, List.set_cons_succ, i64_w, i32_w]
             rfl
            refine join_ (σ := Nat) 2 #[true, true, true, true, true, true, true, true, true, false, false] (fun s_ => [(60, .tuple #[.agg #[.int .i64 t285, .int .i64 t286], .bool true]), (10, .pointer (some ⟨s_, 0, none⟩)), (55, .tuple #[.agg #[.int .i64 t285, .int .i64 t286], .bool true]), (61, .agg #[.int .i64 t285, .int .i64 t286]), (62, .bool true)]) (fun s_ w' => (w'.cell? ⟨gb276, 0, none⟩ = some (.int .i64 t273) ∧ w'.cell? ⟨gb276, 1, none⟩ = some (.int .i64 t274)) ∧ (w'.heap[gb276]? = some (.cells #[.int .i64 t273, .int .i64 t274] 25 (0, 0))) ∧ (w'.heap[gb280]? = some (.cells #[.int .i64 t277, .int .i64 t278] 25 (0, 0))) ∧ (w'.heap[gb284]? = some (.cells #[.int .i64 t281, .int .i64 t282] 25 (0, 0))) ∧ (w'.heap[s_]? = some (.cells #[.int .i64 0, .int .i64 0] 25 (0, 0))) ∧ (w.heap.size ≤ s_) ∧ (w.heap.size ≤ s_) ∧ (gb276 ≠ s_) ∧ (s_ ≠ gb276) ∧ (gb280 ≠ s_) ∧ (s_ ≠ gb280) ∧ (gb284 ≠ s_) ∧ (s_ ≠ gb284) ∧ (Below w.heap.size w w')) ?_ ?_
            rotate_left
            ·
             intro hCont
             refine two_ (i := 4) (j := 8) (Ni := some 60) (Nj := some 10) #[true, true, true, true, true, false, false, false, false, false, false] #[true, true, true, true, false, false, false, false, true, false, false] rfl rfl rfl rfl (two_of HT_.out (by kernel_rfl)) (by decide) (by decide) (fun K hK => ?_) (fun K hK => ?_)
             ·
              skip
              refine goes_ Tryd.func22 (by kernel_rfl) rfl #[.agg #[.int .i64 t273, .int .i64 t274], .string (t275.extract 0 ((ji33) : Int).toNat)] (by rfl) rfl rfl (by (try simp only [List.map_toArray, List.map_cons, List.map_nil]); first | done | (simp only [hji33]; rfl) | rfl | (simp only [List.length_drop, List.length_take]; rfl)) ?_
              with_reducible refine (impl_LongFrom.calls kj5 t273 t274 (t275.extract 0 ((ji33) : Int).toNat) t285 t286 true _ A36.out).mono ?_
              rintro e w207 ⟨rfl, hb⟩
              refine ⟨_, rfl, ?_⟩
              have n0_ := Aside0.mk (blk_below (g := gb276) (o := .cells #[.int .i64 t273, .int .i64 t274] 25 (0, 0)) (kb BK276.out) hb)
              have n1_ := Aside0.mk (blk_below (g := gb280) (o := .cells #[.int .i64 t277, .int .i64 t278] 25 (0, 0)) (kb BK280.out) hb)
              have n2_ := Aside0.mk (blk_below (g := gb284) (o := .cells #[.int .i64 t281, .int .i64 t282] 25 (0, 0)) (kb BK284.out) hb)
              have n3_ := Aside0.mk (below_step (lb3 HB.out GE276.out GE280.out GE284.out) hb)
              clear BK276
              clear BK280
              clear BK284
              clear HB
              have BK276 := n0_
              have BK280 := n1_
              have BK284 := n2_
              have HB := n3_
              clear n0_ n1_ n2_ n3_
              (try clear hb)
              (try clear hb2)
              (try clear hk)
              (try clear hi)
              refine hK.out _ _ ⟨(blk_cell BK276.out 0).trans rfl, (blk_cell BK276.out 1).trans rfl⟩ (fun hHeld => ?_)
              clear hK K
              refine norm_ (a' := ?_) ?_ ?_
              rotate_left
              ·
               show Act.put _ (some 60) _ = _
               simp only [Act.put, List.setIfInBounds_toArray, List.set_cons_zero, List.set_cons_succ, i64_w, i32_w]
               rfl
              refine pure_ (i := 5) (N := some 55) (v := ?_) (a' := ?_) #[true, true, true, true, true, true, false, false, false, false, false] rfl rfl (any_of HT_.out (by kernel_rfl)) (fun _ _ _ h => h) (Or.inl ⟨by rfl, ?_⟩) ?_ ?_
              rotate_left
              ·
               intro w'
               go_simp
               with_reducible rfl
              rotate_left
              ·
               simp only [Act.put, List.setIfInBounds_toArray, List.set_cons_zero, List.set_cons_succ, i64_w, i32_w]
               rfl
              refine pure_ (i := 6) (N := some 61) (v := ?_) (a' := ?_) #[true, true, true, true, true, true, true, false, false, false, false] rfl rfl (any_of HT_.out (by kernel_rfl)) (fun _ _ _ h => h) (Or.inl ⟨by rfl, ?_⟩) ?_ ?_
              rotate_left
              ·
               intro w'
               go_simp
               with_reducible rfl
              rotate_left
              ·
               simp only [Act.put, List.setIfInBounds_toArray, List.set_cons_zero, List.set_cons_succ, i64_w, i32_w]
               rfl
              refine pure_ (i := 7) (N := some 62) (v := ?_) (a' := ?_) #[true, true, true, true, true, true, true, true, false, false, false] rfl rfl (any_of HT_.out (by kernel_rfl)) (fun _ _ _ h => h) (Or.inl ⟨by rfl, ?_⟩) ?_ ?_
              rotate_left
              ·
               intro w'
               go_simp
               with_reducible rfl
              rotate_left
              ·
               simp only [Act.put, List.setIfInBounds_toArray, List.set_cons_zero, List.set_cons_succ, i64_w, i32_w]
               rfl
              refine one_ (i := 8) (N := some 10) #[true, true, true, true, true, true, true, true, true, false, false] rfl rfl (one_of HT_.out (by kernel_rfl)) (by decide) (fun K hK => ?_)
              refine box_step ?hg (N := 10) ?hd (cs := #[.int .i64 0, .int .i64 0]) (t := 25) ?hr ?_; (case hd => rfl); (case hg => rfl); (case hr => first | (go_simp; done) | (go_simp; rfl))
              intro gb288 hg w208 hbox hb
              have n0_ := Aside0.mk (blk_below (g := gb276) (o := .cells #[.int .i64 t273, .int .i64 t274] 25 (0, 0)) (kb BK276.out) hb)
              have n1_ := Aside0.mk (blk_below (g := gb280) (o := .cells #[.int .i64 t277, .int .i64 t278] 25 (0, 0)) (kb BK280.out) hb)
              have n2_ := Aside0.mk (blk_below (g := gb284) (o := .cells #[.int .i64 t281, .int .i64 t282] 25 (0, 0)) (kb BK284.out) hb)
              have n3_ := Aside0.mk (below_step (lb3 HB.out GE276.out GE280.out GE284.out) hb)
              have n4_ := Aside0.mk (hbox)
              have n5_ := Aside0.mk ((by rw [hg]; exact (below_size (lb3 HB.out GE276.out GE280.out GE284.out)) : w.heap.size ≤ gb288))
              have n6_ := Aside0.mk ((by rw [hg]; exact (below_size (lb3 HB.out GE276.out GE280.out GE284.out)) : w.heap.size ≤ gb288))
              have n7_ := Aside0.mk ((by rw [hg]; exact Nat.ne_of_lt (blk_lt (g := gb276) (o := .cells #[.int .i64 t273, .int .i64 t274] 25 (0, 0)) (kb BK276.out)) : gb276 ≠ gb288))
              have n8_ := Aside0.mk ((by rw [hg]; exact Nat.ne_of_gt (blk_lt (g := gb276) (o := .cells #[.int .i64 t273, .int .i64 t274] 25 (0, 0)) (kb BK276.out)) : gb288 ≠ gb276))
              have n9_ := Aside0.mk ((by rw [hg]; exact Nat.ne_of_lt (blk_lt (g := gb280) (o := .cells #[.int .i64 t277, .int .i64 t278] 25 (0, 0)) (kb BK280.out)) : gb280 ≠ gb288))
              have n10_ := Aside0.mk ((by rw [hg]; exact Nat.ne_of_gt (blk_lt (g := gb280) (o := .cells #[.int .i64 t277, .int .i64 t278] 25 (0, 0)) (kb BK280.out)) : gb288 ≠ gb280))
              have n11_ := Aside0.mk ((by rw [hg]; exact Nat.ne_of_lt (blk_lt (g := gb284) (o := .cells #[.int .i64 t281, .int .i64 t282] 25 (0, 0)) (kb BK284.out)) : gb284 ≠ gb288))
              have n12_ := Aside0.mk ((by rw [hg]; exact Nat.ne_of_gt (blk_lt (g := gb284) (o := .cells #[.int .i64 t281, .int .i64 t282] 25 (0, 0)) (kb BK284.out)) : gb288 ≠ gb284))
              clear BK276
              clear BK280
              clear BK284
              clear HB
              have BK276 := n0_
              have BK280 := n1_
              have BK284 := n2_
              have HB := n3_
              have BK288 := n4_
              have GW288 := n5_
              have GE288 := n6_
              have NB276_288 := n7_
              have NB288_276 := n8_
              have NB280_288 := n9_
              have NB288_280 := n10_
              have NB284_288 := n11_
              have NB288_284 := n12_
              clear n0_ n1_ n2_ n3_ n4_ n5_ n6_ n7_ n8_ n9_ n10_ n11_ n12_
              clear hb hbox hg
              refine hK.out _ _ ⟨(blk_cell BK276.out 0).trans rfl, (blk_cell BK276.out 1).trans rfl⟩ (fun hHeld => ?_)
              clear hK K
              refine norm_ (a' := ?_) ?_ ?_
              rotate_left
              ·
               show Act.put _ (some 10) _ = _
               simp only [Act.put, List.setIfInBounds_toArray, List.set_cons_zero, List.set_cons_succ, i64_w, i32_w]
               rfl
              exact norm_ (by simp only [putAll, Act.put, List.setIfInBounds_toArray, List.set_cons_zero, List.set_cons_succ]) (hCont (gb288) _ ⟨hHeld, (kb BK276.out), (kb BK280.out), (kb BK284.out), (kb BK288.out), GW288.out, GE288.out, NB276_288.out, NB288_276.out, NB280_288.out, NB288_280.out, NB284_288.out, NB288_284.out, (lb4 HB.out GE276.out GE280.out GE284.out GE288.out)⟩)
             ·
              skip
              refine box_step ?hg (N := 10) ?hd (cs := #[.int .i64 0, .int .i64 0]) (t := 25) ?hr ?_; (case hd => rfl); (case hg => rfl); (case hr => first | (go_simp; done) | (go_simp; rfl))
              intro gb288 hg w207 hbox hb
              have n0_ := Aside0.mk (blk_below (g := gb276) (o := .cells #[.int .i64 t273, .int .i64 t274] 25 (0, 0)) (kb BK276.out) hb)
              have n1_ := Aside0.mk (blk_below (g := gb280) (o := .cells #[.int .i64 t277, .int .i64 t278] 25 (0, 0)) (kb BK280.out) hb)
              have n2_ := Aside0.mk (blk_below (g := gb284) (o := .cells #[.int .i64 t281, .int .i64 t282] 25 (0, 0)) (kb BK284.out) hb)
              have n3_ := Aside0.mk (below_step (lb3 HB.out GE276.out GE280.out GE284.out) hb)
              have n4_ := Aside0.mk (hbox)
              have n5_ := Aside0.mk ((by rw [hg]; exact (below_size (lb3 HB.out GE276.out GE280.out GE284.out)) : w.heap.size ≤ gb288))
              have n6_ := Aside0.mk ((by rw [hg]; exact (below_size (lb3 HB.out GE276.out GE280.out GE284.out)) : w.heap.size ≤ gb288))
              have n7_ := Aside0.mk ((by rw [hg]; exact Nat.ne_of_lt (blk_lt (g := gb276) (o := .cells #[.int .i64 t273, .int .i64 t274] 25 (0, 0)) (kb BK276.out)) : gb276 ≠ gb288))
              have n8_ := Aside0.mk ((by rw [hg]; exact Nat.ne_of_gt (blk_lt (g := gb276) (o := .cells #[.int .i64 t273, .int .i64 t274] 25 (0, 0)) (kb BK276.out)) : gb288 ≠ gb276))
              have n9_ := Aside0.mk ((by rw [hg]; exact Nat.ne_of_lt (blk_lt (g := gb280) (o := .cells #[.int .i64 t277, .int .i64 t278] 25 (0, 0)) (kb BK280.out)) : gb280 ≠ gb288))
              have n10_ := Aside0.mk ((by rw [hg]; exact Nat.ne_of_gt (blk_lt (g := gb280) (o := .cells #[.int .i64 t277, .int .i64 t278] 25 (0, 0)) (kb BK280.out)) : gb288 ≠ gb280))
              have n11_ := Aside0.mk ((by rw [hg]; exact Nat.ne_of_lt (blk_lt (g := gb284) (o := .cells #[.int .i64 t281, .int .i64 t282] 25 (0, 0)) (kb BK284.out)) : gb284 ≠ gb288))
              have n12_ := Aside0.mk ((by rw [hg]; exact Nat.ne_of_gt (blk_lt (g := gb284) (o := .cells #[.int .i64 t281, .int .i64 t282] 25 (0, 0)) (kb BK284.out)) : gb288 ≠ gb284))
              clear BK276
              clear BK280
              clear BK284
              clear HB
              have BK276 := n0_
              have BK280 := n1_
              have BK284 := n2_
              have HB := n3_
              have BK288 := n4_
              have GW288 := n5_
              have GE288 := n6_
              have NB276_288 := n7_
              have NB288_276 := n8_
              have NB280_288 := n9_
              have NB288_280 := n10_
              have NB284_288 := n11_
              have NB288_284 := n12_
              clear n0_ n1_ n2_ n3_ n4_ n5_ n6_ n7_ n8_ n9_ n10_ n11_ n12_
              clear hb hbox hg
              refine hK.out _ _ ⟨(blk_cell BK276.out 0).trans rfl, (blk_cell BK276.out 1).trans rfl⟩ (fun hHeld => ?_)
              clear hK K
              refine norm_ (a' := ?_) ?_ ?_
              rotate_left
              ·
               show Act.put _ (some 10) _ = _
               simp only [Act.put, List.setIfInBounds_toArray, List.set_cons_zero, List.set_cons_succ, i64_w, i32_w]
               rfl
              refine one_ (i := 4) (N := some 60) #[true, true, true, true, true, false, false, false, true, false, false] rfl rfl (one_of HT_.out (by kernel_rfl)) (by decide) (fun K hK => ?_)
              refine goes_ Tryd.func22 (by kernel_rfl) rfl #[.agg #[.int .i64 t273, .int .i64 t274], .string (t275.extract 0 ((ji33) : Int).toNat)] (by rfl) rfl rfl (by (try simp only [List.map_toArray, List.map_cons, List.map_nil]); first | done | (simp only [hji33]; rfl) | rfl | (simp only [List.length_drop, List.length_take]; rfl)) ?_
              with_reducible refine (impl_LongFrom.calls kj5 t273 t274 (t275.extract 0 ((ji33) : Int).toNat) t285 t286 true _ A36.out).mono ?_
              rintro e w208 ⟨rfl, hb⟩
              refine ⟨_, rfl, ?_⟩
              have n0_ := Aside0.mk (blk_below (g := gb276) (o := .cells #[.int .i64 t273, .int .i64 t274] 25 (0, 0)) (kb BK276.out) hb)
              have n1_ := Aside0.mk (blk_below (g := gb280) (o := .cells #[.int .i64 t277, .int .i64 t278] 25 (0, 0)) (kb BK280.out) hb)
              have n2_ := Aside0.mk (blk_below (g := gb284) (o := .cells #[.int .i64 t281, .int .i64 t282] 25 (0, 0)) (kb BK284.out) hb)
              have n3_ := Aside0.mk (blk_below (g := gb288) (o := .cells #[.int .i64 0, .int .i64 0] 25 (0, 0)) (kb BK288.out) hb)
              have n4_ := Aside0.mk (below_step (lb4 HB.out GE276.out GE280.out GE284.out GE288.out) hb)
              clear BK276
              clear BK280
              clear BK284
              clear BK288
              clear HB
              have BK276 := n0_
              have BK280 := n1_
              have BK284 := n2_
              have BK288 := n3_
              have HB := n4_
              clear n0_ n1_ n2_ n3_ n4_
              (try clear hb)
              (try clear hb2)
              (try clear hk)
              (try clear hi)
              refine hK.out _ _ ⟨(blk_cell BK276.out 0).trans rfl, (blk_cell BK276.out 1).trans rfl⟩ (fun hHeld => ?_)
              clear hK K
              refine norm_ (a' := ?_) ?_ ?_
              rotate_left
              ·
               show Act.put _ (some 60) _ = _
               simp only [Act.put, List.setIfInBounds_toArray, List.set_cons_zero, List.set_cons_succ, i64_w, i32_w]
               rfl
              refine pure_ (i := 5) (N := some 55) (v := ?_) (a' := ?_) #[true, true, true, true, true, true, false, false, true, false, false] rfl rfl (any_of HT_.out (by kernel_rfl)) (fun _ _ _ h => h) (Or.inl ⟨by rfl, ?_⟩) ?_ ?_
              rotate_left
              ·
               intro w'
               go_simp
               with_reducible rfl
              rotate_left
              ·
               simp only [Act.put, List.setIfInBounds_toArray, List.set_cons_zero, List.set_cons_succ, i64_w, i32_w]
               rfl
              refine pure_ (i := 6) (N := some 61) (v := ?_) (a' := ?_) #[true, true, true, true, true, true, true, false, true, false, false] rfl rfl (any_of HT_.out (by kernel_rfl)) (fun _ _ _ h => h) (Or.inl ⟨by rfl, ?_⟩) ?_ ?_
              rotate_left
              ·
               intro w'
               go_simp
               with_reducible rfl
              rotate_left
              ·
               simp only [Act.put, List.setIfInBounds_toArray, List.set_cons_zero, List.set_cons_succ, i64_w, i32_w]
               rfl
              refine pure_ (i := 7) (N := some 62) (v := ?_) (a' := ?_) #[true, true, true, true, true, true, true, true, true, false, false] rfl rfl (any_of HT_.out (by kernel_rfl)) (fun _ _ _ h => h) (Or.inl ⟨by rfl, ?_⟩) ?_ ?_
              rotate_left
              ·
               intro w'
               go_simp
               with_reducible rfl
              rotate_left
              ·
               simp only [Act.put, List.setIfInBounds_toArray, List.set_cons_zero, List.set_cons_succ, i64_w, i32_w]
               rfl
              exact norm_ (by simp only [putAll, Act.put, List.setIfInBounds_toArray, List.set_cons_zero, List.set_cons_succ]) (hCont (gb288) _ ⟨hHeld, (kb BK276.out), (kb BK280.out), (kb BK284.out), (kb BK288.out), GW288.out, GE288.out, NB276_288.out, NB288_276.out, NB280_288.out, NB288_280.out, NB284_288.out, NB288_284.out, (lb4 HB.out GE276.out GE280.out GE284.out GE288.out)⟩)
            rintro gb288 w209 ⟨hS_, h0_, h1_, h2_, h3_, h4_, h5_, h6_, h7_, h8_, h9_, h10_, h11_, h12_⟩
            have n0_ : Aside0 (w209.heap[gb276]? = some (.cells #[.int .i64 t273, .int .i64 t274] 25 (0, 0))) := ⟨h0_⟩
            have n1_ : Aside0 (w209.heap[gb280]? = some (.cells #[.int .i64 t277, .int .i64 t278] 25 (0, 0))) := ⟨h1_⟩
            have n2_ : Aside0 (w209.heap[gb284]? = some (.cells #[.int .i64 t281, .int .i64 t282] 25 (0, 0))) := ⟨h2_⟩
            have n3_ : Aside0 (w209.heap[gb288]? = some (.cells #[.int .i64 0, .int .i64 0] 25 (0, 0))) := ⟨h3_⟩
            have n4_ : Aside0 (w.heap.size ≤ gb288) := ⟨h4_⟩
            have n5_ : Aside0 (w.heap.size ≤ gb288) := ⟨h5_⟩
            have n6_ : Aside0 (gb276 ≠ gb288) := ⟨h6_⟩
            have n7_ : Aside0 (gb288 ≠ gb276) := ⟨h7_⟩
            have n8_ : Aside0 (gb280 ≠ gb288) := ⟨h8_⟩
            have n9_ : Aside0 (gb288 ≠ gb280) := ⟨h9_⟩
            have n10_ : Aside0 (gb284 ≠ gb288) := ⟨h10_⟩
            have n11_ : Aside0 (gb288 ≠ gb284) := ⟨h11_⟩
            have n12_ : Aside0 (Below w.heap.size w w209) := ⟨h12_⟩
            clear BK276
            clear BK280
            clear BK284
            clear HB
            clear h0_ h1_ h2_ h3_ h4_ h5_ h6_ h7_ h8_ h9_ h10_ h11_ h12_
            have BK276 := n0_
            have BK280 := n1_
            have BK284 := n2_
            have BK288 := n3_
            have GW288 := n4_
            have GE288 := n5_
            have NB276_288 := n6_
            have NB288_276 := n7_
            have NB280_288 := n8_
            have NB288_280 := n9_
            have NB284_288 := n10_
            have NB288_284 := n11_
            have HB := n12_
            clear n0_ n1_ n2_ n3_ n4_ n5_ n6_ n7_ n8_ n9_ n10_ n11_ n12_
            have hHeld : w209.cell? ⟨gb276, 0, none⟩ = some (.int .i64 t273) ∧ w209.cell? ⟨gb276, 1, none⟩ = some (.int .i64 t274) := hS_
            refine norm_ (a' := ?_) ?_ ?_
            rotate_left
            ·
             simp only [putAll, Act.put, List.setIfInBounds_toArray, List.set_cons_zero, List.set_cons_succ]
             rfl
            refine one_ (i := 9) (N := none) #[true, true, true, true, true, true, true, true, true, true, false] rfl rfl (one_of HT_.out (by kernel_rfl)) (by decide) (fun K hK => ?_)
            have hs210 : w209.cell? ⟨gb288, 0, none⟩ = some (.int .i64 0) := (blk_cell BK288.out 0).trans rfl
            have hfs210 := blk_frozen BK288.out 0
            have hns210_0 := NB276_288.out
            have hns210_1 := NB280_288.out
            have hns210_2 := NB284_288.out
            have hms210_0 := NB288_276.out
            have hms210_1 := NB288_280.out
            have hms210_2 := NB288_284.out
            have hs211 : w209.cell? ⟨gb288, 1, none⟩ = some (.int .i64 0) := (blk_cell BK288.out 1).trans rfl
            have hfs211 := blk_frozen BK288.out 1
            have hns211_0 := NB276_288.out
            have hns211_1 := NB280_288.out
            have hns211_2 := NB284_288.out
            have hms211_0 := NB288_276.out
            have hms211_1 := NB288_280.out
            have hms211_2 := NB288_284.out
            refine skip_ (w1 := ?_) (by rfl) rfl ?_ ?_
            rotate_left
            ·
             go_simp
             rfl
            refine hK.out _ _ ⟨((cell_far (p := ⟨gb288, _, none⟩) NB276_288.out _).trans (((cell_far (p := ⟨gb288, _, none⟩) NB276_288.out _).trans (hHeld.1)))), ((cell_far (p := ⟨gb288, _, none⟩) NB276_288.out _).trans (((cell_far (p := ⟨gb288, _, none⟩) NB276_288.out _).trans (hHeld.2))))⟩ (fun hHeld => ?_)
            clear hK K
            refine pure_ (i := 10) (N := some 11) (v := ?_) (a' := ?_) #[true, true, true, true, true, true, true, true, true, true, true] rfl rfl (any_of HT_.out (by kernel_rfl)) (fun _ _ _ h => h) (Or.inl ⟨by rfl, ?_⟩) ?_ ?_
            rotate_left
            ·
             intro w'
             go_simp
             with_reducible rfl
            rotate_left
            ·
             simp only [Act.put, List.setIfInBounds_toArray, List.set_cons_zero, List.set_cons_succ, i64_w, i32_w]
             rfl
            refine done_ (done_of HT_.out (by kernel_rfl)) ?_
            try go_wp2
            have n0_ : Aside0 (((w209.setCell ⟨gb288, 0, none⟩ (.int .i64 t285)).setCell ⟨gb288, 1, none⟩ (.int .i64 t286)).heap[gb276]? = some (.cells #[.int .i64 t273, .int .i64 t274] 25 (0, 0))) := ⟨kf1 BK276.out NB276_288.out⟩
            have n1_ : Aside0 (((w209.setCell ⟨gb288, 0, none⟩ (.int .i64 t285)).setCell ⟨gb288, 1, none⟩ (.int .i64 t286)).heap[gb280]? = some (.cells #[.int .i64 t277, .int .i64 t278] 25 (0, 0))) := ⟨kf1 BK280.out NB280_288.out⟩
            have n2_ : Aside0 (((w209.setCell ⟨gb288, 0, none⟩ (.int .i64 t285)).setCell ⟨gb288, 1, none⟩ (.int .i64 t286)).heap[gb284]? = some (.cells #[.int .i64 t281, .int .i64 t282] 25 (0, 0))) := ⟨kf1 BK284.out NB284_288.out⟩
            have n3_ : Aside0 (((w209.setCell ⟨gb288, 0, none⟩ (.int .i64 t285)).setCell ⟨gb288, 1, none⟩ (.int .i64 t286)).heap[gb288]? = some (.cells #[.int .i64 t285, .int .i64 t286] 25 (0, 0))) := ⟨by (with_reducible repeat (first | refine blk_drewN ?_ _ | refine blk_drew ?_ | refine blk_alloc ?_ _)); refine blk_put (cs := #[.int .i64 t285, .int .i64 0]) ?_ 1 _ rfl; (with_reducible repeat (first | refine blk_drewN ?_ _ | refine blk_drew ?_ | refine blk_alloc ?_ _)); refine blk_put (cs := #[.int .i64 0, .int .i64 0]) ?_ 0 _ rfl; (with_reducible repeat (first | refine blk_drewN ?_ _ | refine blk_drew ?_ | refine blk_alloc ?_ _)); exact BK288.out⟩
            have n4_ : Aside0 (Below w.heap.size w ((w209.setCell ⟨gb288, 0, none⟩ (.int .i64 t285)).setCell ⟨gb288, 1, none⟩ (.int .i64 t286))) := ⟨by repeat (first | (with_reducible first | exact HB.out | apply below_alloc | apply pw_below_drewN | apply below_drew1 | refine below_set ?_ GE276.out | refine below_set ?_ GE280.out | refine below_set ?_ GE284.out | refine below_set ?_ GE288.out) | exact HB.out)⟩
            (try clear BK276)
            (try clear BK280)
            (try clear BK284)
            (try clear BK288)
            (try clear HB)
            generalize ((w209.setCell ⟨gb288, 0, none⟩ (.int .i64 t285)).setCell ⟨gb288, 1, none⟩ (.int .i64 t286)) = w212 at n0_ n1_ n2_ n3_ n4_ ⊢
            have BK276 := n0_
            have BK280 := n1_
            have BK284 := n2_
            have BK288 := n3_
            have HB := n4_
            clear n0_ n1_ n2_ n3_ n4_
            have n0_ := Aside0.mk (blk_drew BK276.out)
            have n1_ := Aside0.mk (blk_drew BK280.out)
            have n2_ := Aside0.mk (blk_drew BK284.out)
            have n3_ := Aside0.mk (blk_drew BK288.out)
            have n4_ := Aside0.mk (below_drew1 HB.out)
            clear BK276
            clear BK280
            clear BK284
            clear BK288
            clear HB
            have BK276 := n0_
            have BK280 := n1_
            have BK284 := n2_
            have BK288 := n3_
            have HB := n4_
            clear n0_ n1_ n2_ n3_ n4_
            refine start_ (n := 11) (S := fun w' => w'.cell? ⟨gb288, 0, none⟩ = some (.int .i64 t285) ∧ w'.cell? ⟨gb288, 1, none⟩ = some (.int .i64 t286)) (ds := []) #[false, false, false, false, false, false, false, false, false, false, false] (by kernel_rfl) rfl rfl ⟨(blk_cell BK288.out 0).trans rfl, (blk_cell BK288.out 1).trans rfl⟩ (fun hHeld => ?_); refine with_tabW laws_FnLongFrom.tab12 laws_FnLongFrom.bits12 (fun HT_ HW_ => ?_)
            generalize w212.drew = w213 at BK276 BK280 BK284 BK288 HB hHeld ⊢
            refine pure_ (i := 1) (N := some 65) (v := ?_) (a' := ?_) #[false, true, false, false, false, false, false, false, false, false, false] rfl rfl (any_of HT_.out (by kernel_rfl)) (fun _ _ _ h => h) (Or.inl ⟨by rfl, ?_⟩) ?_ ?_
            rotate_left
            ·
             intro w'
             go_simp
             with_reducible rfl
            rotate_left
            ·
             simp only [Act.put, List.setIfInBounds_toArray, List.set_cons_zero, List.set_cons_succ, i64_w, i32_w]
             rfl
            refine pure_ (i := 2) (N := some 66) (v := ?_) (a' := ?_) #[false, true, true, false, false, false, false, false, false, false, false] rfl rfl (any_of HT_.out (by kernel_rfl)) (fun _ _ _ h => h) (Or.inl ⟨by rfl, ?_⟩) ?_ ?_
            rotate_left
            ·
             intro w'
             go_simp
             with_reducible rfl
            rotate_left
            ·
             simp only [Act.put, List.setIfInBounds_toArray, List.set_cons_zero, List.set_cons_succ, i64_w, i32_w]
             rfl
            refine pure_ (i := 3) (N := some 67) (v := ?_) (a' := ?_) #[false, true, true, true, false, false, false, false, false, false, false] rfl rfl (any_of HT_.out (by kernel_rfl)) (fun _ _ _ h => h) (Or.inl ⟨by rfl, ?_⟩) ?_ ?_
            rotate_left
            ·
             intro w'
             go_simp
             with_reducible rfl
            rotate_left
            ·
             simp only [Act.put, List.setIfInBounds_toArray, List.set_cons_zero, List.set_cons_succ, i64_w, i32_w]
             rfl
            refine take_ (i := 0) (N := some 64) (v := ?_) (a' := ?_) #[true, true, true, true, false, false, false, false, false, false, false] rfl rfl (take_ofW HT_.out HW_.out (by kernel_rfl)) (fun _ _ _ h => h) (Or.inl ⟨by rfl, ?_⟩) hHeld ?_ ?_
            rotate_left
            ·
             rintro w' ⟨s0, s1⟩
             go_simp
             with_reducible rfl
            rotate_left
            ·
             simp only [Act.put, List.setIfInBounds_toArray, List.set_cons_zero, List.set_cons_succ, i64_w, i32_w]
             rfl
            refine join_ (σ := Nat) 2 #[true, true, true, true, true, true, true, true, true, false, false] (fun s_ => [(68, .tuple #[.agg #[.int .i64 t289, .int .i64 t290], .bool false]), (12, .pointer (some ⟨s_, 0, none⟩)), (63, .tuple #[.agg #[.int .i64 t289, .int .i64 t290], .bool false]), (69, .agg #[.int .i64 t289, .int .i64 t290]), (70, .bool false)]) (fun s_ w' => (w'.cell? ⟨gb288, 0, none⟩ = some (.int .i64 t285) ∧ w'.cell? ⟨gb288, 1, none⟩ = some (.int .i64 t286)) ∧ (w'.heap[gb276]? = some (.cells #[.int .i64 t273, .int .i64 t274] 25 (0, 0))) ∧ (w'.heap[gb280]? = some (.cells #[.int .i64 t277, .int .i64 t278] 25 (0, 0))) ∧ (w'.heap[gb284]? = some (.cells #[.int .i64 t281, .int .i64 t282] 25 (0, 0))) ∧ (w'.heap[gb288]? = some (.cells #[.int .i64 t285, .int .i64 t286] 25 (0, 0))) ∧ (w'.heap[s_]? = some (.cells #[.int .i64 0, .int .i64 0] 25 (0, 0))) ∧ (w.heap.size ≤ s_) ∧ (w.heap.size ≤ s_) ∧ (gb276 ≠ s_) ∧ (s_ ≠ gb276) ∧ (gb280 ≠ s_) ∧ (s_ ≠ gb280) ∧ (gb284 ≠ s_) ∧ (s_ ≠ gb284) ∧ (gb288 ≠ s_) ∧ (s_ ≠ gb288) ∧ (Below w.heap.size w w')) ?_ ?_
            rotate_left
            ·
             intro hCont
             refine two_ (i := 4) (j := 8) (Ni := some 68) (Nj := some 12) #[true, true, true, true, true, false, false, false, false, false, false] #[true, true, true, true, false, false, false, false, true, false, false] rfl rfl rfl rfl (two_of HT_.out (by kernel_rfl)) (by decide) (by decide) (fun K hK => ?_) (fun K hK => ?_)
             ·
              skip
              refine goes_ Tryd.func22 (by kernel_rfl) rfl #[.agg #[.int .i64 t285, .int .i64 t286], .string (t275.extract ((ji33) : Int).toNat t275.size)] (by rfl) rfl rfl (by (try simp only [List.map_toArray, List.map_cons, List.map_nil]); first | done | (simp only [hji33]; rfl) | rfl | (simp only [List.length_drop, List.length_take]; rfl)) ?_
              with_reducible refine (impl_LongFrom.calls kj5 t285 t286 (t275.extract ((ji33) : Int).toNat t275.size) t289 t290 false _ A39.out).mono ?_
              rintro e w214 ⟨rfl, hb⟩
              refine ⟨_, rfl, ?_⟩
              have n0_ := Aside0.mk (blk_below (g := gb276) (o := .cells #[.int .i64 t273, .int .i64 t274] 25 (0, 0)) (kb BK276.out) hb)
              have n1_ := Aside0.mk (blk_below (g := gb280) (o := .cells #[.int .i64 t277, .int .i64 t278] 25 (0, 0)) (kb BK280.out) hb)
              have n2_ := Aside0.mk (blk_below (g := gb284) (o := .cells #[.int .i64 t281, .int .i64 t282] 25 (0, 0)) (kb BK284.out) hb)
              have n3_ := Aside0.mk (blk_below (g := gb288) (o := .cells #[.int .i64 t285, .int .i64 t286] 25 (0, 0)) (kb BK288.out) hb)
              have n4_ := Aside0.mk (below_step (lb4 HB.out GE276.out GE280.out GE284.out GE288.out) hb)
              clear BK276
              clear BK280
              clear BK284
              clear BK288
              clear HB
              have BK276 := n0_
              have BK280 := n1_
              have BK284 := n2_
              have BK288 := n3_
              have HB := n4_
              clear n0_ n1_ n2_ n3_ n4_
              (try clear hb)
              (try clear hb2)
              (try clear hk)
              (try clear hi)
              refine hK.out _ _ ⟨(blk_cell BK288.out 0).trans rfl, (blk_cell BK288.out 1).trans rfl⟩ (fun hHeld => ?_)
              clear hK K
              refine norm_ (a' := ?_) ?_ ?_
              rotate_left
              ·
               show Act.put _ (some 68) _ = _
               simp only [Act.put, List.setIfInBounds_toArray, List.set_cons_zero, List.set_cons_succ, i64_w, i32_w]
               rfl
              refine pure_ (i := 5) (N := some 63) (v := ?_) (a' := ?_) #[true, true, true, true, true, true, false, false, false, false, false] rfl rfl (any_of HT_.out (by kernel_rfl)) (fun _ _ _ h => h) (Or.inl ⟨by rfl, ?_⟩) ?_ ?_
              rotate_left
              ·
               intro w'
               go_simp
               with_reducible rfl
              rotate_left
              ·
               simp only [Act.put, List.setIfInBounds_toArray, List.set_cons_zero, List.set_cons_succ, i64_w, i32_w]
               rfl
              refine pure_ (i := 6) (N := some 69) (v := ?_) (a' := ?_) #[true, true, true, true, true, true, true, false, false, false, false] rfl rfl (any_of HT_.out (by kernel_rfl)) (fun _ _ _ h => h) (Or.inl ⟨by rfl, ?_⟩) ?_ ?_
              rotate_left
              ·
               intro w'
               go_simp
               with_reducible rfl
              rotate_left
              ·
               simp only [Act.put, List.setIfInBounds_toArray, List.set_cons_zero, List.set_cons_succ, i64_w, i32_w]
               rfl
              refine pure_ (i := 7) (N := some 70) (v := ?_) (a' := ?_) #[true, true, true, true, true, true, true, true, false, false, false] rfl rfl (any_of HT_.out (by kernel_rfl)) (fun _ _ _ h => h) (Or.inl ⟨by rfl, ?_⟩) ?_ ?_
              rotate_left
              ·
               intro w'
               go_simp
               with_reducible rfl
              rotate_left
              ·
               simp only [Act.put, List.setIfInBounds_toArray, List.set_cons_zero, List.set_cons_succ, i64_w, i32_w]
               rfl
              refine one_ (i := 8) (N := some 12) #[true, true, true, true, true, true, true, true, true, false, false] rfl rfl (one_of HT_.out (by kernel_rfl)) (by decide) (fun K hK => ?_)
              refine box_step ?hg (N := 12) ?hd (cs := #[.int .i64 0, .int .i64 0]) (t := 25) ?hr ?_; (case hd => rfl); (case hg => rfl); (case hr => first | (go_simp; done) | (go_simp; rfl))
              intro gb292 hg w215 hbox hb
              have n0_ := Aside0.mk (blk_below (g := gb276) (o := .cells #[.int .i64 t273, .int .i64 t274] 25 (0, 0)) (kb BK276.out) hb)
              have n1_ := Aside0.mk (blk_below (g := gb280) (o := .cells #[.int .i64 t277, .int .i64 t278] 25 (0, 0)) (kb BK280.out) hb)
              have n2_ := Aside0.mk (blk_below (g := gb284) (o := .cells #[.int .i64 t281, .int .i64 t282] 25 (0, 0)) (kb BK284.out) hb)
              have n3_ := Aside0.mk (blk_below (g := gb288) (o := .cells #[.int .i64 t285, .int .i64 t286] 25 (0, 0)) (kb BK288.out) hb)
              have n4_ := Aside0.mk (below_step (lb4 HB.out GE276.out GE280.out GE284.out GE288.out) hb)
              have n5_ := Aside0.mk (hbox)
              have n6_ := Aside0.mk ((by rw [hg]; exact (below_size (lb4 HB.out GE276.out GE280.out GE284.out GE288.out)) : w.heap.size ≤ gb292))
              have n7_ := Aside0.mk ((by rw [hg]; exact (below_size (lb4 HB.out GE276.out GE280.out GE284.out GE288.out)) : w.heap.size ≤ gb292))
              have n8_ := Aside0.mk ((by rw [hg]; exact Nat.ne_of_lt (blk_lt (g := gb276) (o := .cells #[.int .i64 t273, .int .i64 t274] 25 (0, 0)) (kb BK276.out)) : gb276 ≠ gb292))
              have n9_ := Aside0.mk ((by rw [hg]; exact Nat.ne_of_gt (blk_lt (g := gb276) (o := .cells #[.int .i64 t273, .int .i64 t274] 25 (0, 0)) (kb BK276.out)) : gb292 ≠ gb276))
              have n10_ := Aside0.mk ((by rw [hg]; exact Nat.ne_of_lt (blk_lt (g := gb280) (o := .cells #[.int .i64 t277, .int .i64 t278] 25 (0, 0)) (kb BK280.out)) : gb280 ≠ gb292))
              have n11_ := Aside0.mk ((by rw [hg]; exact Nat.ne_of_gt (blk_lt (g := gb280) (o := .cells #[.int .i64 t277, .int .i64 t278] 25 (0, 0)) (kb BK280.out)) : gb292 ≠ gb280))
              have n12_ := Aside0.mk ((by rw [hg]; exact Nat.ne_of_lt (blk_lt (g := gb284) (o := .cells #[.int .i64 t281, .int .i64 t282] 25 (0, 0)) (kb BK284.out)) : gb284 ≠ gb292))
              have n13_ := Aside0.mk ((by rw [hg]; exact Nat.ne_of_gt (blk_lt (g := gb284) (o := .cells #[.int .i64 t281, .int .i64 t282] 25 (0, 0)) (kb BK284.out)) : gb292 ≠ gb284))
              have n14_ := Aside0.mk ((by rw [hg]; exact Nat.ne_of_lt (blk_lt (g := gb288) (o := .cells #[.int .i64 t285, .int .i64 t286] 25 (0, 0)) (kb BK288.out)) : gb288 ≠ gb292))
              have n15_ := Aside0.mk ((by rw [hg]; exact Nat.ne_of_gt (blk_lt (g := gb288) (o := .cells #[.int .i64 t285, .int .i64 t286] 25 (0, 0)) (kb BK288.out)) : gb292 ≠ gb288))
              clear BK276
              clear BK280
              clear BK284
              clear BK288
              clear HB
              have BK276 := n0_
              have BK280 := n1_
              have BK284 := n2_
              have BK288 := n3_
              have HB := n4_
              have BK292 := n5_
              have GW292 := n6_
              have GE292 := n7_
              have NB276_292 := n8_
              have NB292_276 := n9_
              have NB280_292 := n10_
              have NB292_280 := n11_
              have NB284_292 := n12_
              have NB292_284 := n13_
              have NB288_292 := n14_
              have NB292_288 := n15_
              clear n0_ n1_ n2_ n3_ n4_ n5_ n6_ n7_ n8_ n9_ n10_ n11_ n12_ n13_ n14_ n15_
              clear hb hbox hg
              refine hK.out _ _ ⟨(blk_cell BK288.out 0).trans rfl, (blk_cell BK288.out 1).trans rfl⟩ (fun hHeld => ?_)
              clear hK K
              refine norm_ (a' := ?_) ?_ ?_
              rotate_left
              ·
               show Act.put _ (some 12) _ = _
               simp only [Act.put, List.setIfInBounds_toArray, List.set_cons_zero, List.set_cons_succ, i64_w, i32_w]
               rfl
              exact norm_ (by simp only [putAll, Act.put, List.setIfInBounds_toArray, List.set_cons_zero, List.set_cons_succ]) (hCont (gb292) _ ⟨hHeld, (kb BK276.out), (kb BK280.out), (kb BK284.out), (kb BK288.out), (kb BK292.out), GW292.out, GE292.out, NB276_292.out, NB292_276.out, NB280_292.out, NB292_280.out, NB284_292.out, NB292_284.out, NB288_292.out, NB292_288.out, (lb5 HB.out GE276.out GE280.out GE284.out GE288.out GE292.out)⟩)
             ·
              skip
              refine box_step ?hg (N := 12) ?hd (cs := #[.int .i64 0, .int .i64 0]) (t := 25) ?hr ?_; (case hd => rfl); (case hg => rfl); (case hr => first | (go_simp; done) | (go_simp; rfl))
              intro gb292 hg w214 hbox hb
              have n0_ := Aside0.mk (blk_below (g := gb276) (o := .cells #[.int .i64 t273, .int .i64 t274] 25 (0, 0)) (kb BK276.out) hb)
              have n1_ := Aside0.mk (blk_below (g := gb280) (o := .cells #[.int .i64 t277, .int .i64 t278] 25 (0, 0)) (kb BK280.out) hb)
              have n2_ := Aside0.mk (blk_below (g := gb284) (o := .cells #[.int .i64 t281, .int .i64 t282] 25 (0, 0)) (kb BK284.out) hb)
              have n3_ := Aside0.mk (blk_below (g := gb288) (o := .cells #[.int .i64 t285, .int .i64 t286] 25 (0, 0)) (kb BK288.out) hb)
              have n4_ := Aside0.mk (below_step (lb4 HB.out GE276.out GE280.out GE284.out GE288.out) hb)
              have n5_ := Aside0.mk (hbox)
              have n6_ := Aside0.mk ((by rw [hg]; exact (below_size (lb4 HB.out GE276.out GE280.out GE284.out GE288.out)) : w.heap.size ≤ gb292))
              have n7_ := Aside0.mk ((by rw [hg]; exact (below_size (lb4 HB.out GE276.out GE280.out GE284.out GE288.out)) : w.heap.size ≤ gb292))
              have n8_ := Aside0.mk ((by rw [hg]; exact Nat.ne_of_lt (blk_lt (g := gb276) (o := .cells #[.int .i64 t273, .int .i64 t274] 25 (0, 0)) (kb BK276.out)) : gb276 ≠ gb292))
              have n9_ := Aside0.mk ((by rw [hg]; exact Nat.ne_of_gt (blk_lt (g := gb276) (o := .cells #[.int .i64 t273, .int .i64 t274] 25 (0, 0)) (kb BK276.out)) : gb292 ≠ gb276))
              have n10_ := Aside0.mk ((by rw [hg]; exact Nat.ne_of_lt (blk_lt (g := gb280) (o := .cells #[.int .i64 t277, .int .i64 t278] 25 (0, 0)) (kb BK280.out)) : gb280 ≠ gb292))
              have n11_ := Aside0.mk ((by rw [hg]; exact Nat.ne_of_gt (blk_lt (g := gb280) (o := .cells #[.int .i64 t277, .int .i64 t278] 25 (0, 0)) (kb BK280.out)) : gb292 ≠ gb280))
              have n12_ := Aside0.mk ((by rw [hg]; exact Nat.ne_of_lt (blk_lt (g := gb284) (o := .cells #[.int .i64 t281, .int .i64 t282] 25 (0, 0)) (kb BK284.out)) : gb284 ≠ gb292))
              have n13_ := Aside0.mk ((by rw [hg]; exact Nat.ne_of_gt (blk_lt (g := gb284) (o := .cells #[.int .i64 t281, .int .i64 t282] 25 (0, 0)) (kb BK284.out)) : gb292 ≠ gb284))
              have n14_ := Aside0.mk ((by rw [hg]; exact Nat.ne_of_lt (blk_lt (g := gb288) (o := .cells #[.int .i64 t285, .int .i64 t286] 25 (0, 0)) (kb BK288.out)) : gb288 ≠ gb292))
              have n15_ := Aside0.mk ((by rw [hg]; exact Nat.ne_of_gt (blk_lt (g := gb288) (o := .cells #[.int .i64 t285, .int .i64 t286] 25 (0, 0)) (kb BK288.out)) : gb292 ≠ gb288))
              clear BK276
              clear BK280
              clear BK284
              clear BK288
              clear HB
              have BK276 := n0_
              have BK280 := n1_
              have BK284 := n2_
              have BK288 := n3_
              have HB := n4_
              have BK292 := n5_
              have GW292 := n6_
              have GE292 := n7_
              have NB276_292 := n8_
              have NB292_276 := n9_
              have NB280_292 := n10_
              have NB292_280 := n11_
              have NB284_292 := n12_
              have NB292_284 := n13_
              have NB288_292 := n14_
              have NB292_288 := n15_
              clear n0_ n1_ n2_ n3_ n4_ n5_ n6_ n7_ n8_ n9_ n10_ n11_ n12_ n13_ n14_ n15_
              clear hb hbox hg
              refine hK.out _ _ ⟨(blk_cell BK288.out 0).trans rfl, (blk_cell BK288.out 1).trans rfl⟩ (fun hHeld => ?_)
              clear hK K
              refine norm_ (a' := ?_) ?_ ?_
              rotate_left
              ·
               show Act.put _ (some 12) _ = _
               simp only [Act.put, List.setIfInBounds_toArray, List.set_cons_zero, List.set_cons_succ, i64_w, i32_w]
               rfl
              refine one_ (i := 4) (N := some 68) #[true, true, true, true, true, false, false, false, true, false, false] rfl rfl (one_of HT_.out (by kernel_rfl)) (by decide) (fun K hK => ?_)
              refine goes_ Tryd.func22 (by kernel_rfl) rfl #[.agg #[.int .i64 t285, .int .i64 t286], .string (t275.extract ((ji33) : Int).toNat t275.size)] (by rfl) rfl rfl (by (try simp only [List.map_toArray, List.map_cons, List.map_nil]); first | done | (simp only [hji33]; rfl) | rfl | (simp only [List.length_drop, List.length_take]; rfl)) ?_
              with_reducible refine (impl_LongFrom.calls kj5 t285 t286 (t275.extract ((ji33) : Int).toNat t275.size) t289 t290 false _ A39.out).mono ?_
              rintro e w215 ⟨rfl, hb⟩
              refine ⟨_, rfl, ?_⟩
              have n0_ := Aside0.mk (blk_below (g := gb276) (o := .cells #[.int .i64 t273, .int .i64 t274] 25 (0, 0)) (kb BK276.out) hb)
              have n1_ := Aside0.mk (blk_below (g := gb280) (o := .cells #[.int .i64 t277, .int .i64 t278] 25 (0, 0)) (kb BK280.out) hb)
              have n2_ := Aside0.mk (blk_below (g := gb284) (o := .cells #[.int .i64 t281, .int .i64 t282] 25 (0, 0)) (kb BK284.out) hb)
              have n3_ := Aside0.mk (blk_below (g := gb288) (o := .cells #[.int .i64 t285, .int .i64 t286] 25 (0, 0)) (kb BK288.out) hb)
              have n4_ := Aside0.mk (blk_below (g := gb292) (o := .cells #[.int .i64 0, .int .i64 0] 25 (0, 0)) (kb BK292.out) hb)
              have n5_ := Aside0.mk (below_step (lb5 HB.out GE276.out GE280.out GE284.out GE288.out GE292.out) hb)
              clear BK276
              clear BK280
              clear BK284
              clear BK288
              clear BK292
              clear HB
              have BK276 := n0_
              have BK280 := n1_
              have BK284 := n2_
              have BK288 := n3_
              have BK292 := n4_
              have HB := n5_
              clear n0_ n1_ n2_ n3_ n4_ n5_
              (try clear hb)
              (try clear hb2)
              (try clear hk)
              (try clear hi)
              refine hK.out _ _ ⟨(blk_cell BK288.out 0).trans rfl, (blk_cell BK288.out 1).trans rfl⟩ (fun hHeld => ?_)
              clear hK K
              refine norm_ (a' := ?_) ?_ ?_
              rotate_left
              ·
               show Act.put _ (some 68) _ = _
               simp only [Act.put, List.setIfInBounds_toArray, List.set_cons_zero, List.set_cons_succ, i64_w, i32_w]
               rfl
              refine pure_ (i := 5) (N := some 63) (v := ?_) (a' := ?_) #[true, true, true, true, true, true, false, false, true, false, false] rfl rfl (any_of HT_.out (by kernel_rfl)) (fun _ _ _ h => h) (Or.inl ⟨by rfl, ?_⟩) ?_ ?_
              rotate_left
              ·
               intro w'
               go_simp
               with_reducible rfl
              rotate_left
              ·
               simp only [Act.put, List.setIfInBounds_toArray, List.set_cons_zero, List.set_cons_succ, i64_w, i32_w]
               rfl
              refine pure_ (i := 6) (N := some 69) (v := ?_) (a' := ?_) #[true, true, true, true, true, true, true, false, true, false, false] rfl rfl (any_of HT_.out (by kernel_rfl)) (fun _ _ _ h => h) (Or.inl ⟨by rfl, ?_⟩) ?_ ?_
              rotate_left
              ·
               intro w'
               go_simp
               with_reducible rfl
              rotate_left
              ·
               simp only [Act.put, List.setIfInBounds_toArray, List.set_cons_zero, List.set_cons_succ, i64_w, i32_w]
               rfl
              refine pure_ (i := 7) (N := some 70) (v := ?_) (a' := ?_) #[true, true, true, true, true, true, true, true, true, false, false] rfl rfl (any_of HT_.out (by kernel_rfl)) (fun _ _ _ h => h) (Or.inl ⟨by rfl, ?_⟩) ?_ ?_
              rotate_left
              ·
               intro w'
               go_simp
               with_reducible rfl
              rotate_left
              ·
               simp only [Act.put, List.setIfInBounds_toArray, List.set_cons_zero, List.set_cons_succ, i64_w, i32_w]
               rfl
              exact norm_ (by simp only [putAll, Act.put, List.setIfInBounds_toArray, List.set_cons_zero, List.set_cons_succ]) (hCont (gb292) _ ⟨hHeld, (kb BK276.out), (kb BK280.out), (kb BK284.out), (kb BK288.out), (kb BK292.out), GW292.out, GE292.out, NB276_292.out, NB292_276.out, NB280_292.out, NB292_280.out, NB284_292.out, NB292_284.out, NB288_292.out, NB292_288.out, (lb5 HB.out GE276.out GE280.out GE284.out GE288.out GE292.out)⟩)
            rintro gb292 w216 ⟨hS_, h0_, h1_, h2_, h3_, h4_, h5_, h6_, h7_, h8_, h9_, h10_, h11_, h12_, h13_, h14_, h15_⟩
            have n0_ : Aside0 (w216.heap[gb276]? = some (.cells #[.int .i64 t273, .int .i64 t274] 25 (0, 0))) := ⟨h0_⟩
            have n1_ : Aside0 (w216.heap[gb280]? = some (.cells #[.int .i64 t277, .int .i64 t278] 25 (0, 0))) := ⟨h1_⟩
            have n2_ : Aside0 (w216.heap[gb284]? = some (.cells #[.int .i64 t281, .int .i64 t282] 25 (0, 0))) := ⟨h2_⟩
            have n3_ : Aside0 (w216.heap[gb288]? = some (.cells #[.int .i64 t285, .int .i64 t286] 25 (0, 0))) := ⟨h3_⟩
            have n4_ : Aside0 (w216.heap[gb292]? = some (.cells #[.int .i64 0, .int .i64 0] 25 (0, 0))) := ⟨h4_⟩
            have n5_ : Aside0 (w.heap.size ≤ gb292) := ⟨h5_⟩
            have n6_ : Aside0 (w.heap.size ≤ gb292) := ⟨h6_⟩
            have n7_ : Aside0 (gb276 ≠ gb292) := ⟨h7_⟩
            have n8_ : Aside0 (gb292 ≠ gb276) := ⟨h8_⟩
            have n9_ : Aside0 (gb280 ≠ gb292) := ⟨h9_⟩
            have n10_ : Aside0 (gb292 ≠ gb280) := ⟨h10_⟩
            have n11_ : Aside0 (gb284 ≠ gb292) := ⟨h11_⟩
            have n12_ : Aside0 (gb292 ≠ gb284) := ⟨h12_⟩
            have n13_ : Aside0 (gb288 ≠ gb292) := ⟨h13_⟩
            have n14_ : Aside0 (gb292 ≠ gb288) := ⟨h14_⟩
            have n15_ : Aside0 (Below w.heap.size w w216) := ⟨h15_⟩
            clear BK276
            clear BK280
            clear BK284
            clear BK288
            clear HB
            clear h0_ h1_ h2_ h3_ h4_ h5_ h6_ h7_ h8_ h9_ h10_ h11_ h12_ h13_ h14_ h15_
            have BK276 := n0_
            have BK280 := n1_
            have BK284 := n2_
            have BK288 := n3_
            have BK292 := n4_
            have GW292 := n5_
            have GE292 := n6_
            have NB276_292 := n7_
            have NB292_276 := n8_
            have NB280_292 := n9_
            have NB292_280 := n10_
            have NB284_292 := n11_
            have NB292_284 := n12_
            have NB288_292 := n13_
            have NB292_288 := n14_
            have HB := n15_
            clear n0_ n1_ n2_ n3_ n4_ n5_ n6_ n7_ n8_ n9_ n10_ n11_ n12_ n13_ n14_ n15_
            have hHeld : w216.cell? ⟨gb288, 0, none⟩ = some (.int .i64 t285) ∧ w216.cell? ⟨gb288, 1, none⟩ = some (.int .i64 t286) := hS_
            refine norm_ (a' := ?_) ?_ ?_
            rotate_left
            ·
             simp only [putAll, Act.put, List.setIfInBounds_toArray, List.set_cons_zero, List.set_cons_succ]
             rfl
            refine one_ (i := 9) (N := none) #[true, true, true, true, true, true, true, true, true, true, false] rfl rfl (one_of HT_.out (by kernel_rfl)) (by decide) (fun K hK => ?_)
            have hs217 : w216.cell? ⟨gb292, 0, none⟩ = some (.int .i64 0) := (blk_cell BK292.out 0).trans rfl
            have hfs217 := blk_frozen BK292.out 0
            have hns217_0 := NB276_292.out
            have hns217_1 := NB280_292.out
            have hns217_2 := NB284_292.out
            have hns217_3 := NB288_292.out
            have hms217_0 := NB292_276.out
            have hms217_1 := NB292_280.out
            have hms217_2 := NB292_284.out
            have hms217_3 := NB292_288.out
            have hs218 : w216.cell? ⟨gb292, 1, none⟩ = some (.int .i64 0) := (blk_cell BK292.out 1).trans rfl
            have hfs218 := blk_frozen BK292.out 1
            have hns218_0 := NB276_292.out
            have hns218_1 := NB280_292.out
            have hns218_2 := NB284_292.out
            have hns218_3 := NB288_292.out
            have hms218_0 := NB292_276.out
            have hms218_1 := NB292_280.out
            have hms218_2 := NB292_284.out
            have hms218_3 := NB292_288.out
            refine skip_ (w1 := ?_) (by rfl) rfl ?_ ?_
            rotate_left
            ·
             go_simp
             rfl
            refine hK.out _ _ ⟨((cell_far (p := ⟨gb292, _, none⟩) NB288_292.out _).trans (((cell_far (p := ⟨gb292, _, none⟩) NB288_292.out _).trans (hHeld.1)))), ((cell_far (p := ⟨gb292, _, none⟩) NB288_292.out _).trans (((cell_far (p := ⟨gb292, _, none⟩) NB288_292.out _).trans (hHeld.2))))⟩ (fun hHeld => ?_)
            clear hK K
            refine pure_ (i := 10) (N := some 13) (v := ?_) (a' := ?_) #[true, true, true, true, true, true, true, true, true, true, true] rfl rfl (any_of HT_.out (by kernel_rfl)) (fun _ _ _ h => h) (Or.inl ⟨by rfl, ?_⟩) ?_ ?_
            rotate_left
            ·
             intro w'
             go_simp
             with_reducible rfl
            rotate_left
            ·
             simp only [Act.put, List.setIfInBounds_toArray, List.set_cons_zero, List.set_cons_succ, i64_w, i32_w]
             rfl
            refine done_ (done_of HT_.out (by kernel_rfl)) ?_
            have hnb219 := NB276_280.out
            have hnc219 := NB280_276.out
            have hnb220 := NB276_284.out
            have hnc220 := NB284_276.out
            have hnb221 := NB276_288.out
            have hnc221 := NB288_276.out
            have hnb222 := NB276_292.out
            have hnc222 := NB292_276.out
            have hcz223_0 : w216.cell? ⟨gb276, 0, none⟩ = some (.int .i64 t273) := (blk_cell BK276.out 0).trans rfl
            have hcz223_1 : w216.cell? ⟨gb276, 1, none⟩ = some (.int .i64 t274) := (blk_cell BK276.out 1).trans rfl
            have hfz223_0 := blk_frozen BK276.out 0
            have hfz223_1 := blk_frozen BK276.out 1
            try go_wp2_with (first | ((with_reducible refine gate_callee (f := 19) rfl ?_); refine goesL_ (some 74) rfl rfl Tryd.func19 (by kernel_rfl) rfl #[.agg #[.int .i64 t273, .int .i64 t274], .string t275] rfl (by (try simp only [List.map_toArray, List.map_cons, List.map_nil]); first | done | rfl | (simp only [List.length_drop, List.length_take]; rfl)) ?_; (with_reducible refine (impl_DancedFrom.calls kj5 t273 t274 t275 t293 t294 true _ A40.out).mono ?_); rintro e w224 ⟨rfl, hb⟩; refine ⟨_, rfl, ?_⟩; have n0_ := Aside0.mk (blk_below (g := gb276) (o := .cells #[.int .i64 t273, .int .i64 t274] 25 (0, 0)) (kf1 BK276.out NB276_292.out) hb); have n1_ := Aside0.mk (blk_below (g := gb280) (o := .cells #[.int .i64 t277, .int .i64 t278] 25 (0, 0)) (kf1 BK280.out NB280_292.out) hb); have n2_ := Aside0.mk (blk_below (g := gb284) (o := .cells #[.int .i64 t281, .int .i64 t282] 25 (0, 0)) (kf1 BK284.out NB284_292.out) hb); have n3_ := Aside0.mk (blk_below (g := gb288) (o := .cells #[.int .i64 t285, .int .i64 t286] 25 (0, 0)) (kf1 BK288.out NB288_292.out) hb); have n4_ := Aside0.mk (blk_below (g := gb292) (o := .cells #[.int .i64 t289, .int .i64 t290] 25 (0, 0)) (by (with_reducible repeat (first | refine blk_drewN ?_ _ | refine blk_drew ?_ | refine blk_alloc ?_ _)); refine blk_put (cs := #[.int .i64 t289, .int .i64 0]) ?_ 1 _ rfl; (with_reducible repeat (first | refine blk_drewN ?_ _ | refine blk_drew ?_ | refine blk_alloc ?_ _)); refine blk_put (cs := #[.int .i64 0, .int .i64 0]) ?_ 0 _ rfl; (with_reducible repeat (first | refine blk_drewN ?_ _ | refine blk_drew ?_ | refine blk_alloc ?_ _)); exact BK292.out) hb); have n5_ := Aside0.mk (below_step (lb5 HB.out GE276.out GE280.out GE284.out GE288.out GE292.out) hb); clear BK276; clear BK280; clear BK284; clear BK288; clear BK292; clear HB; have BK276 := n0_; have BK280 := n1_; have BK284 := n2_; have BK288 := n3_; have BK292 := n4_; have HB := n5_; clear n0_ n1_ n2_ n3_ n4_ n5_; (try clear hb); (try clear hb2); (try clear hk); (try clear hi)) | ((with_reducible refine gate_dst (N := 14) rfl ?_); (try (refine gate_guard (by rfl) ?_; dsimp only)); refine box_event ?hg (N := 14) ?hd (cs := #[.int .i64 0, .int .i64 0]) (t := 25) ?hr ?_; (case hd => rfl); (case hg => rfl); (case hr => first | (go_simp; done) | (go_simp; rfl)); intro gb296 hg w225 hbox hb; have n0_ := Aside0.mk (blk_below (g := gb276) (o := .cells #[.int .i64 t273, .int .i64 t274] 25 (0, 0)) (kb BK276.out) hb); have n1_ := Aside0.mk (blk_below (g := gb280) (o := .cells #[.int .i64 t277, .int .i64 t278] 25 (0, 0)) (kb BK280.out) hb); have n2_ := Aside0.mk (blk_below (g := gb284) (o := .cells #[.int .i64 t281, .int .i64 t282] 25 (0, 0)) (kb BK284.out) hb); have n3_ := Aside0.mk (blk_below (g := gb288) (o := .cells #[.int .i64 t285, .int .i64 t286] 25 (0, 0)) (kb BK288.out) hb); have n4_ := Aside0.mk (blk_below (g := gb292) (o := .cells #[.int .i64 t289, .int .i64 t290] 25 (0, 0)) (kb BK292.out) hb); have n5_ := Aside0.mk (below_step (lb5 HB.out GE276.out GE280.out GE284.out GE288.out GE292.out) hb); have n6_ := Aside0.mk (hbox); have n7_ := Aside0.mk ((by rw [hg]; exact (below_size (lb5 HB.out GE276.out GE280.out GE284.out GE288.out GE292.out)) : w.heap.size ≤ gb296)); have n8_ := Aside0.mk ((by rw [hg]; exact (below_size (lb5 HB.out GE276.out GE280.out GE284.out GE288.out GE292.out)) : w.heap.size ≤ gb296)); have n9_ := Aside0.mk ((by rw [hg]; exact Nat.ne_of_lt (blk_lt (g := gb276) (o := .cells #[.int .i64 t273, .int .i64 t274] 25 (0, 0)) (kb BK276.out)) : gb276 ≠ gb296)); have n10_ := Aside0.mk ((by rw [hg]; exact Nat.ne_of_gt (blk_lt (g := gb276) (o := .cells #[.int .i64 t273, .int .i64 t274] 25 (0, 0)) (kb BK276.out)) : gb296 ≠ gb276)); have n11_ := Aside0.mk ((by rw [hg]; exact Nat.ne_of_lt (blk_lt (g := gb280) (o := .cells #[.int .i64 t277, .int .i64 t278] 25 (0, 0)) (kb BK280.out)) : gb280 ≠ gb296)); have n12_ := Aside0.mk ((by rw [hg]; exact Nat.ne_of_gt (blk_lt (g := gb280) (o := .cells #[.int .i64 t277, .int .i64 t278] 25 (0, 0)) (kb BK280.out)) : gb296 ≠ gb280)); have n13_ := Aside0.mk ((by rw [hg]; exact Nat.ne_of_lt (blk_lt (g := gb284) (o := .cells #[.int .i64 t281, .int .i64 t282] 25 (0, 0)) (kb BK284.out)) : gb284 ≠ gb296)); have n14_ := Aside0.mk ((by rw [hg]; exact Nat.ne_of_gt (blk_lt (g := gb284) (o := .cells #[.int .i64 t281, .int .i64 t282] 25 (0, 0)) (kb BK284.out)) : gb296 ≠ gb284)); have n15_ := Aside0.mk ((by rw [hg]; exact Nat.ne_of_lt (blk_lt (g := gb288) (o := .cells #[.int .i64 t285, .int .i64 t286] 25 (0, 0)) (kb BK288.out)) : gb288 ≠ gb296)); have n16_ := Aside0.mk ((by rw [hg]; exact Nat.ne_of_gt (blk_lt (g := gb288) (o := .cells #[.int .i64 t285, .int .i64 t286] 25 (0, 0)) (kb BK288.out)) : gb296 ≠ gb288)); have n17_ := Aside0.mk ((by rw [hg]; exact Nat.ne_of_lt (blk_lt (g := gb292) (o := .cells #[.int .i64 t289, .int .i64 t290] 25 (0, 0)) (kb BK292.out)) : gb292 ≠ gb296)); have n18_ := Aside0.mk ((by rw [hg]; exact Nat.ne_of_gt (blk_lt (g := gb292) (o := .cells #[.int .i64 t289, .int .i64 t290] 25 (0, 0)) (kb BK292.out)) : gb296 ≠ gb292)); clear BK276; clear BK280; clear BK284; clear BK288; clear BK292; clear HB; have BK276 := n0_; have BK280 := n1_; have BK284 := n2_; have BK288 := n3_; have BK292 := n4_; have HB := n5_; have BK296 := n6_; have GW296 := n7_; have GE296 := n8_; have NB276_296 := n9_; have NB296_276 := n10_; have NB280_296 := n11_; have NB296_280 := n12_; have NB284_296 := n13_; have NB296_284 := n14_; have NB288_296 := n15_; have NB296_288 := n16_; have NB292_296 := n17_; have NB296_292 := n18_; clear n0_ n1_ n2_ n3_ n4_ n5_ n6_ n7_ n8_ n9_ n10_ n11_ n12_ n13_ n14_ n15_ n16_ n17_ n18_; clear hb hbox hg; have hnb226 := NB296_276.out; have hnc226 := NB276_296.out; have hnb227 := NB296_280.out; have hnc227 := NB280_296.out; have hnb228 := NB296_284.out; have hnc228 := NB284_296.out; have hnb229 := NB296_288.out; have hnc229 := NB288_296.out; have hnb230 := NB296_292.out; have hnc230 := NB292_296.out; have hcz231_0 : w225.cell? ⟨gb296, 0, none⟩ = some (.int .i64 0) := (blk_cell BK296.out 0).trans rfl; have hcz231_1 : w225.cell? ⟨gb296, 1, none⟩ = some (.int .i64 0) := (blk_cell BK296.out 1).trans rfl; have hfz231_0 := blk_frozen BK296.out 0; have hfz231_1 := blk_frozen BK296.out 1; have hnb232 := NB280_284.out; have hnc232 := NB284_280.out; have hnb233 := NB280_288.out; have hnc233 := NB288_280.out; have hnb234 := NB280_292.out; have hnc234 := NB292_280.out; have hcz235_0 : w225.cell? ⟨gb280, 0, none⟩ = some (.int .i64 t277) := (blk_cell BK280.out 0).trans rfl; have hcz235_1 : w225.cell? ⟨gb280, 1, none⟩ = some (.int .i64 t278) := (blk_cell BK280.out 1).trans rfl; have hfz235_0 := blk_frozen BK280.out 0; have hfz235_1 := blk_frozen BK280.out 1))
            go_ret
            exact ⟨by first | rfl | (simp [errW_none, errW_some] <;> rfl) | (simp only [← hji33]; first | rfl | (simp [errW_none, errW_some] <;> rfl)) | (simp [*, errW_none, errW_some] <;> rfl), by repeat (first | (with_reducible first | exact HB.out | apply below_alloc | apply pw_below_drewN | apply below_drew1 | refine below_set ?_ GE276.out | refine below_set ?_ GE280.out | refine below_set ?_ GE284.out | refine below_set ?_ GE288.out | refine below_set ?_ GE292.out | refine below_set ?_ GE296.out) | exact HB.out)⟩
           ·
            replace c205 := Bool.eq_false_iff.mpr c205
            subst c205
            have H1 : (some false) = some r := by rw [if_neg (show ¬ (false = true) by decide)] at H; exact H
            clear H
            have H := H1
            clear H1
            exact absurd ((Option.some.inj H).trans hr) (by simp)
        ·
         replace c41 := Bool.eq_false_iff.mpr c41
         subst c41
         have H1 : (some false) = some r := by rw [if_neg (show ¬ (false = true) by decide)] at H; exact H
         clear H
         have H := H1
         clear H1
         exact absurd ((Option.some.inj H).trans hr) (by simp)
       ·
        rw [if_neg c35] at H
        exact absurd H (by simp)
      ·
       rw [if_neg c34] at H
       exact absurd H (by simp)
     ·
      replace c32 := Bool.eq_false_iff.mpr c32
      subst c32
      have H1 : (if (t277 == 0 && (t278 == 0)) = true then ((laws_alive.f kj5).bind fun t297 => (some t297)) else (some false)) = some r := by rw [if_neg (show ¬ (false = true) by decide)] at H; exact H
      clear H
      have H := H1
      clear H1
      by_cases c288 : (t277 == 0 && (t278 == 0)) = true
      ·
       rw [if_pos c288] at H
       have c288b0 : (t277 == 0 && (t278 == 0)) = true := c288
       (try (have c288b1 : decide (t277 = 0 && (t278 == 0)) = true := by simpa using c288))
       (try (have c288b2 : (t277 == 0 && (t278 == 0)) = true := by simpa using c288))
       clear c288
       replace H := Option.bind_eq_some_iff.mp H
       obtain ⟨t297, A2890, H⟩ := H
       replace H : (some t297) = some r := H
       have A289 := Aside0.mk A2890
       clear A2890
       obtain rfl := Option.some.inj H
       have hnb290 := NB280_276.out
       have hnc290 := NB276_280.out
       have hnb291 := NB280_284.out
       have hnc291 := NB284_280.out
       have hcz292_0 : wc.cell? ⟨gb280, 0, none⟩ = some (.int .i64 t277) := (blk_cell BK280.out 0).trans rfl
       have hcz292_1 : wc.cell? ⟨gb280, 1, none⟩ = some (.int .i64 t278) := (blk_cell BK280.out 1).trans rfl
       have hfz292_0 := blk_frozen BK280.out 0
       have hfz292_1 := blk_frozen BK280.out 1
       go_wp2_with (first | (go_at_call 27; (with_reducible refine (laws_alive.calls kj5  t297 _ A289.out).mono ?_); rintro e w293 ⟨rfl, hb⟩; have n0_ := Aside0.mk (blk_below (g := gb276) (o := .cells #[.int .i64 t273, .int .i64 t274] 25 (0, 0)) (kb BK276.out) hb); have n1_ := Aside0.mk (blk_below (g := gb280) (o := .cells #[.int .i64 t277, .int .i64 t278] 25 (0, 0)) (kb BK280.out) hb); have n2_ := Aside0.mk (blk_below (g := gb284) (o := .cells #[.int .i64 t281, .int .i64 t282] 25 (0, 0)) (kb BK284.out) hb); have n3_ := Aside0.mk (below_step (lb3 HB.out GE276.out GE280.out GE284.out) hb); clear BK276; clear BK280; clear BK284; clear HB; have BK276 := n0_; have BK280 := n1_; have BK284 := n2_; have HB := n3_; clear n0_ n1_ n2_ n3_; (try clear hb); (try clear hb2); (try clear hk); (try clear hi)))
       go_ret
       exact ⟨by first | rfl | (simp [errW_none, errW_some] <;> rfl) | (simp [*, errW_none, errW_some] <;> rfl), by repeat (first | (with_reducible first | exact HB.out | apply below_alloc | apply pw_below_drewN | apply below_drew1 | refine below_set ?_ GE276.out | refine below_set ?_ GE280.out | refine below_set ?_ GE284.out) | exact HB.out)⟩
      ·
       rw [if_neg c288] at H
       have c288b0 : (t277 == 0 && (t278 == 0)) = false := by simpa using c288
       (try (have c288b1 : decide (t277 = 0 && (t278 == 0)) = false := by simpa using c288))
       (try (have c288b2 : (t277 == 0 && (t278 == 0)) = false := by simpa using c288))
       (try (have c288b3 : ¬ (t277 = 0 && (t278 == 0)) := by simpa using c288))
       clear c288
       exact absurd ((Option.some.inj H).trans hr) (by simp)

/-- THE ONE PURE STATEMENT of laws_FnLongFrom: yours. -/
def laws_FnLongFrom.Pure : Prop := ∀ (l0 : List Int), l0.length ≤ maxLen → l0.length * 1 ≤ 140737488351232 → (∀ x ∈ l0, (Lit.int .u8 x).wf = true) → ∃ k, laws_FnLongFrom.f k l0 = some true
theorem laws_FnLongFrom.walk (P : laws_FnLongFrom.Pure) (a0 : Option Addr) (len0 cap0 : Nat) (z0 : List Int) (w : World) (w0 : (a0 = none ∧ len0 = 0 ∧ cap0 = 0 ∧ z0 = []) ∨ ∃ x, a0 = some x ∧ len0 ≤ cap0 ∧ cap0 ≤ maxLen ∧ z0.length = cap0 ∧ (∀ i, i < z0.length → w.cell? (x.add i) = some (.int .u8 (z0.getD i 0))) ∧ ∀ n ∈ z0, (Lit.int .u8 n).wf = true) (y0 : len0 * 1 ≤ 140737488351232) :
  Calls Tryd.prog 12 #[.slice a0 len0 cap0] w fun e w' => e = .returned (.bool true) ∧ Below w.heap.size w w' := by
 obtain ⟨l0, rfl, hr0, hm0, hw0, hc0⟩ := ReadsInt.ofRowC w0
 obtain ⟨k, h⟩ := P l0 hm0 y0 hw0
 refine (laws_FnLongFrom.calls k _ _ l0 true rfl w (Kd.C_of_reads (d := (0 : Int)) (h1 := fun _ => rfl) hr0) hc0 h).mono ?_
 rintro e w' ⟨rfl, hd⟩
 exact ⟨rfl, hd⟩

end Go.Proofs.YtcahmfhlmclgkaaDoor.PFnLongFrom

