/- Walks of functions that the law reaches (lines that the kit's print wrote, over contracts of this session's own). -/
import Derived.Test.YtcahmfhlmclgkaaDoorPFnLongFromx0
import Derived.Test.YtcahmfhlmclgkaaDoorPFnLongFromx2
import Derived.Test.YtcahmfhlmclgkaaDoorPFnLongFromx3
namespace Go.Proofs.YtcahmfhlmclgkaaDoor.PFnLongFrom
open Go.RowKit Go.Proofs.YtcahmfhlmclgkaaDoorW.PrintWords Go.Proofs.YtcahmfhlmclgkaaDoorW.PrintLast Go.Proofs.YtcahmfhlmclgkaaDoorW.PrintMore
attribute [local go_sem] max2_int min2_int max_two min_two max_three min_three max_four min_four   -- for this text's walks alone
set_option linter.unusedVariables false
set_option linter.unusedSimpArgs false
theorem kbq4 {Q P : Prop} (q : Q) (h : Q → P := by intro q_; (with_reducible repeat (first | refine blk_drewN ?_ _ | refine blk_drew ?_ | refine blk_alloc ?_ _)); exact q_) : P := h q
theorem kf1q4 {Q P : Prop} {N0 : Prop} (q : Q) (n0 : N0) (h : Q → N0 → P := by intro q_ m0_; (with_reducible repeat (first | refine blk_drewN ?_ _ | refine blk_drew ?_ | refine blk_alloc ?_ _ | refine blk_far ?_ m0_ _)); exact q_) : P := h q n0
theorem kf2q4 {Q P : Prop} {N0 N1 : Prop} (q : Q) (n0 : N0) (n1 : N1) (h : Q → N0 → N1 → P := by intro q_ m0_ m1_; (with_reducible repeat (first | refine blk_drewN ?_ _ | refine blk_drew ?_ | refine blk_alloc ?_ _ | refine blk_far ?_ m0_ _ | refine blk_far ?_ m1_ _)); exact q_) : P := h q n0 n1
theorem lb0q4 {Q P : Prop} (q : Q)  (h : Q → P := by intro q_ ; repeat (first | (with_reducible first | exact q_ | apply below_alloc | apply pw_below_drewN | apply below_drew1) | exact q_)) : P := h q 
theorem lb1q4 {Q P : Prop} {N0 : Prop} (q : Q) (n0 : N0) (h : Q → N0 → P := by intro q_ m0_; repeat (first | (with_reducible first | exact q_ | apply below_alloc | apply pw_below_drewN | apply below_drew1 | refine below_set ?_ m0_) | exact q_)) : P := h q n0
theorem lb2q4 {Q P : Prop} {N0 N1 : Prop} (q : Q) (n0 : N0) (n1 : N1) (h : Q → N0 → N1 → P := by intro q_ m0_ m1_; repeat (first | (with_reducible first | exact q_ | apply below_alloc | apply pw_below_drewN | apply below_drew1 | refine below_set ?_ m0_ | refine below_set ?_ m1_) | exact q_)) : P := h q n0 n1
theorem lb3q4 {Q P : Prop} {N0 N1 N2 : Prop} (q : Q) (n0 : N0) (n1 : N1) (n2 : N2) (h : Q → N0 → N1 → N2 → P := by intro q_ m0_ m1_ m2_; repeat (first | (with_reducible first | exact q_ | apply below_alloc | apply pw_below_drewN | apply below_drew1 | refine below_set ?_ m0_ | refine below_set ?_ m1_ | refine below_set ?_ m2_) | exact q_)) : P := h q n0 n1 n2
theorem lb4q4 {Q P : Prop} {N0 N1 N2 N3 : Prop} (q : Q) (n0 : N0) (n1 : N1) (n2 : N2) (n3 : N3) (h : Q → N0 → N1 → N2 → N3 → P := by intro q_ m0_ m1_ m2_ m3_; repeat (first | (with_reducible first | exact q_ | apply below_alloc | apply pw_below_drewN | apply below_drew1 | refine below_set ?_ m0_ | refine below_set ?_ m1_ | refine below_set ?_ m2_ | refine below_set ?_ m3_) | exact q_)) : P := h q n0 n1 n2 n3

/-! ### spec_LongFrom: function 21 -/
mutual
def spec_LongFrom.j0 : Nat → ByteArray → Bool → Int → Int → Option (Int × Int × Bool)
  | 0, _, _, _, _ => none
  | k + 1, x1, x28, x161000, x161001 => if x28 = true then (some (0, 0, false)) else (spec_LongFrom.l0 k x1 0 x161000 x161001)
def spec_LongFrom.l0 : Nat → ByteArray → Int → Int → Int → Option (Int × Int × Bool)
  | 0, _, _, _, _ => none
  | k + 1, x1, x7, x165000, x165001 => if x7 < (x1.size : Int) then (if 0 ≤ x7 then (if x7 ≤ (wrap64 (x7 + 1)) then (if (wrap64 (x7 + 1)) ≤ (x1.size : Int) then ((spec_DanceOk.f k (x1.extract (x7 : Int).toNat ((wrap64 (x7 + 1)) : Int).toNat)).bind fun t165 => (if t165 = true then ((spec_l2Move.f k x165000 x165001 (bt x1 x7)).bind fun bt166 => (if bt166.2.2 = true then (spec_LongFrom.l0 k x1 (wrap64 (x7 + 1)) bt166.1 bt166.2.1) else (some (0, 0, false)))) else (some (0, 0, false)))) else (none)) else (none)) else (none)) else (some (x165000, x165001, true))
end
def spec_LongFrom.f (k : Nat) (a0_0 : Int) (a0_1 : Int) (a1 : ByteArray) : Option (Int × Int × Bool) := (spec_FractionOk.f k a0_0 a0_1).bind fun t162 => (if t162 = true then ((spec_l1In.f a0_0 (-1000) 1000).bind fun t163 => (if t163 = true then (if a0_1 > 1000 then (spec_LongFrom.j0 k a1 true a0_0 a0_1) else (spec_LongFrom.j0 k a1 (decide ((a1.size : Int) > 1000)) a0_0 a0_1)) else (spec_LongFrom.j0 k a1 true a0_0 a0_1))) else (spec_LongFrom.j0 k a1 true a0_0 a0_1))
theorem spec_LongFrom.mono_l : ∀ k, (∀ y0 y1 y2 y3, LeO (spec_LongFrom.j0 k y0 y1 y2 y3) (spec_LongFrom.j0 (k + 1) y0 y1 y2 y3)) ∧ (∀ y0 y1 y2 y3, LeO (spec_LongFrom.l0 k y0 y1 y2 y3) (spec_LongFrom.l0 (k + 1) y0 y1 y2 y3))
  | 0 => ⟨fun _ _ _ _ r h => by simp [spec_LongFrom.j0] at h, fun _ _ _ _ r h => by simp [spec_LongFrom.l0] at h⟩
  | k + 1 => by
    obtain ⟨ih0, ih1⟩ := spec_LongFrom.mono_l k
    refine ⟨?_, ?_⟩
    · intro y0 y1 y2 y3
      unfold spec_LongFrom.j0
      repeat' first
      | (with_reducible exact ih0 _ _ _ _)
      | (with_reducible exact ih1 _ _ _ _)
      | (with_reducible exact spec_DanceOk.mono _ _)
      | (with_reducible exact spec_FractionOk.mono _ _ _)
      | (with_reducible exact spec_l2Move.mono _ _ _ _)
      | (with_reducible exact LeO.refl _)
      | (with_reducible exact LeO.none _)
      | (with_reducible refine LeO.ite ?_ ?_)
      | (with_reducible refine LeO.bind ?_ (fun _ => ?_))
      | exact ih0 _ _ _ _
      | exact ih1 _ _ _ _
      | exact spec_DanceOk.mono _ _
      | exact spec_FractionOk.mono _ _ _
      | exact spec_l2Move.mono _ _ _ _
      | exact LeO.none _
      | refine LeO.ite ?_ ?_
      | refine LeO.bind ?_ (fun _ => ?_)
    · intro y0 y1 y2 y3
      unfold spec_LongFrom.l0
      repeat' first
      | (with_reducible exact ih0 _ _ _ _)
      | (with_reducible exact ih1 _ _ _ _)
      | (with_reducible exact spec_DanceOk.mono _ _)
      | (with_reducible exact spec_FractionOk.mono _ _ _)
      | (with_reducible exact spec_l2Move.mono _ _ _ _)
      | (with_reducible exact LeO.refl _)
      | (with_reducible exact LeO.none _)
      | (with_reducible refine LeO.ite ?_ ?_)
      | (with_reducible refine LeO.bind ?_ (fun _ => ?_))
      | exact ih0 _ _ _ _
      | exact ih1 _ _ _ _
      | exact spec_DanceOk.mono _ _
      | exact spec_FractionOk.mono _ _ _
      | exact spec_l2Move.mono _ _ _ _
      | exact LeO.none _
      | refine LeO.ite ?_ ?_
      | refine LeO.bind ?_ (fun _ => ?_)
theorem spec_LongFrom.mono : ∀ a0 a1 a2 k, LeO (spec_LongFrom.f k a0 a1 a2) (spec_LongFrom.f (k + 1) a0 a1 a2) := by
  intro a0 a1 a2 k
  obtain ⟨ih0, ih1⟩ := spec_LongFrom.mono_l k
  unfold spec_LongFrom.f
  repeat' first
      | (with_reducible exact ih0 _ _ _ _)
      | (with_reducible exact ih1 _ _ _ _)
      | (with_reducible exact spec_DanceOk.mono _ _)
      | (with_reducible exact spec_FractionOk.mono _ _ _)
      | (with_reducible exact spec_l2Move.mono _ _ _ _)
      | (with_reducible exact LeO.refl _)
      | (with_reducible exact LeO.none _)
      | (with_reducible refine LeO.ite ?_ ?_)
      | (with_reducible refine LeO.bind ?_ (fun _ => ?_))
      | exact ih0 _ _ _ _
      | exact ih1 _ _ _ _
      | exact spec_DanceOk.mono _ _
      | exact spec_FractionOk.mono _ _ _
      | exact spec_l2Move.mono _ _ _ _
      | exact LeO.none _
      | refine LeO.ite ?_ ?_
      | refine LeO.bind ?_ (fun _ => ?_)
def spec_LongFrom.T9 : Bool × List (List Nat × List Nat) := (true, [([], []), ([], []), ([], []), ([1, 2], [1, 2]), ([0, 3], [0, 3]), ([4], [4]), ([5], [5]), ([5], [5]), ([], []), ([8, 6, 4, 0, 1, 2, 3, 4, 5, 6, 8], [6, 8]), ([7, 9, 0, 1, 2, 3, 4, 5, 6, 7, 8, 9], [7])])
def spec_LongFrom.B9 : List Nat := [0, 0, 0, 6, 15, 31, 63, 63, 0, 383, 1023]
theorem spec_LongFrom.tab9 : rtab .any (opsOf Tryd.f21 9) = spec_LongFrom.T9 := by kernel_rfl
theorem spec_LongFrom.bits9 : waitsOk spec_LongFrom.T9.2 spec_LongFrom.B9 = true := by kernel_rfl
set_option maxHeartbeats 8000000 in
set_option maxRecDepth 100000 in
theorem spec_LongFrom.calls (k : Nat) (a0_0 : Int) (a0_1 : Int) (a1 : ByteArray) (r1 : Int) (r2 : Int) (r3 : Bool) (w : World) (h : spec_LongFrom.f k a0_0 a0_1 a1 = some (r1, r2, r3)) :
  Calls Tryd.prog 21 #[.agg #[.int .i64 a0_0, .int .i64 a0_1], .string a1] w fun e w' => e = .returned (.tuple #[.agg #[.int .i64 r1, .int .i64 r2], .bool r3]) ∧ Below w.heap.size w w' := by
 have hu25 := Tryd.underlying25
 have HB := Aside0.mk (Below.refl w.heap.size w)
 have H : ((spec_FractionOk.f k a0_0 a0_1).bind fun t162 => (if t162 = true then ((spec_l1In.f a0_0 (-1000) 1000).bind fun t163 => (if t163 = true then (if a0_1 > 1000 then (spec_LongFrom.j0 k a1 true a0_0 a0_1) else (spec_LongFrom.j0 k a1 (decide ((a1.size : Int) > 1000)) a0_0 a0_1)) else (spec_LongFrom.j0 k a1 true a0_0 a0_1))) else (spec_LongFrom.j0 k a1 true a0_0 a0_1))) = some (r1, r2, r3) := h
 clear h
 have HC3 := Aside0.mk H
 clear H
 go_enter Tryd.func21, Tryd.ntmps21
 go_upto_region 1 with (first | ((with_reducible refine gate_dst (N := 2) rfl ?_); (try (refine gate_guard (by rfl) ?_; dsimp only)); refine box_event ?hg (N := 2) ?hd (cs := #[.int .i64 a0_0, .int .i64 a0_1]) (t := 25) ?hr ?_; (case hd => rfl); (case hg => rfl); (case hr => first | (go_simp; done) | (go_simp; rfl)); intro gb160 hg w4 hbox hb; have n0_ := Aside0.mk (below_step (lb0q4 HB.out) hb); have n1_ := Aside0.mk (hbox); have n2_ := Aside0.mk ((by rw [hg]; exact (below_size (lb0q4 HB.out)) : w.heap.size ≤ gb160)); have n3_ := Aside0.mk ((by rw [hg]; exact (below_size (lb0q4 HB.out)) : w.heap.size ≤ gb160)); clear HB; have HB := n0_; have BK160 := n1_; have GW160 := n2_; have GE160 := n3_; clear n0_ n1_ n2_ n3_; clear hb hbox hg) | ((with_reducible refine gate_dst (N := 4) rfl ?_); (try (refine gate_guard (by rfl) ?_; dsimp only)); refine box_event ?hg (N := 4) ?hd (cs := #[.int .i64 0, .int .i64 0]) (t := 25) ?hr ?_; (case hd => rfl); (case hg => rfl); (case hr => first | (go_simp; done) | (go_simp; rfl)); intro gb161 hg w5 hbox hb; have n0_ := Aside0.mk (blk_below (g := gb160) (o := .cells #[.int .i64 a0_0, .int .i64 a0_1] 25 (0, 0)) (kbq4 BK160.out) hb); have n1_ := Aside0.mk (below_step (lb1q4 HB.out GE160.out) hb); have n2_ := Aside0.mk (hbox); have n3_ := Aside0.mk ((by rw [hg]; exact (below_size (lb1q4 HB.out GE160.out)) : w.heap.size ≤ gb161)); have n4_ := Aside0.mk ((by rw [hg]; exact (below_size (lb1q4 HB.out GE160.out)) : w.heap.size ≤ gb161)); have n5_ := Aside0.mk ((by rw [hg]; exact Nat.ne_of_lt (blk_lt (g := gb160) (o := .cells #[.int .i64 a0_0, .int .i64 a0_1] 25 (0, 0)) (kbq4 BK160.out)) : gb160 ≠ gb161)); have n6_ := Aside0.mk ((by rw [hg]; exact Nat.ne_of_gt (blk_lt (g := gb160) (o := .cells #[.int .i64 a0_0, .int .i64 a0_1] 25 (0, 0)) (kbq4 BK160.out)) : gb161 ≠ gb160)); clear BK160; clear HB; have BK160 := n0_; have HB := n1_; have BK161 := n2_; have GW161 := n3_; have GE161 := n4_; have NB160_161 := n5_; have NB161_160 := n6_; clear n0_ n1_ n2_ n3_ n4_ n5_ n6_; clear hb hbox hg))
 (try simp only [Act.put, List.setIfInBounds_toArray, List.set_cons_zero, List.set_cons_succ])
 go_cut [28] (fun v28 wc => ∃ (kq : Nat) (x28_2 : Bool), v28 = .bool x28_2 ∧ Aside0 (spec_LongFrom.j0 kq a1 x28_2 a0_0 a0_1 = some (r1, r2, r3)) ∧ Aside0 (kq ≤ k) ∧ Aside0 (wc.heap[gb160]? = some (.cells #[.int .i64 a0_0, .int .i64 a0_1] 25 (0, 0))) ∧ Aside0 (wc.heap[gb161]? = some (.cells #[.int .i64 0, .int .i64 0] 25 (0, 0))) ∧ Aside0 (Below w.heap.size w wc))
 case first =>
  have H := HC3.out
  clear HC3
  replace H := Option.bind_eq_some_iff.mp H
  obtain ⟨t162, A60, H⟩ := H
  replace H : (if t162 = true then ((spec_l1In.f a0_0 (-1000) 1000).bind fun t163 => (if t163 = true then (if a0_1 > 1000 then (spec_LongFrom.j0 k a1 true a0_0 a0_1) else (spec_LongFrom.j0 k a1 (decide ((a1.size : Int) > 1000)) a0_0 a0_1)) else (spec_LongFrom.j0 k a1 true a0_0 a0_1))) else (spec_LongFrom.j0 k a1 true a0_0 a0_1)) = some (r1, r2, r3) := H
  have A6 := Aside0.mk A60
  clear A60
  by_cases c7 : t162 = true
  ·
   subst c7
   have H1 : ((spec_l1In.f a0_0 (-1000) 1000).bind fun t163 => (if t163 = true then (if a0_1 > 1000 then (spec_LongFrom.j0 k a1 true a0_0 a0_1) else (spec_LongFrom.j0 k a1 (decide ((a1.size : Int) > 1000)) a0_0 a0_1)) else (spec_LongFrom.j0 k a1 true a0_0 a0_1))) = some (r1, r2, r3) := by rw [if_pos rfl] at H; exact H
   clear H
   have H := H1
   clear H1
   replace H := Option.bind_eq_some_iff.mp H
   obtain ⟨t163, A80, H⟩ := H
   replace H : (if t163 = true then (if a0_1 > 1000 then (spec_LongFrom.j0 k a1 true a0_0 a0_1) else (spec_LongFrom.j0 k a1 (decide ((a1.size : Int) > 1000)) a0_0 a0_1)) else (spec_LongFrom.j0 k a1 true a0_0 a0_1)) = some (r1, r2, r3) := H
   have A8 := Aside0.mk A80
   clear A80
   by_cases c9 : t163 = true
   ·
    subst c9
    have H1 : (if a0_1 > 1000 then (spec_LongFrom.j0 k a1 true a0_0 a0_1) else (spec_LongFrom.j0 k a1 (decide ((a1.size : Int) > 1000)) a0_0 a0_1)) = some (r1, r2, r3) := by rw [if_pos rfl] at H; exact H
    clear H
    have H := H1
    clear H1
    by_cases c10 : a0_1 > 1000
    ·
     rw [if_pos c10] at H
     have c10b0 : decide (1000 < a0_1) = true := decide_eq_true c10
     clear c10
     (first | rw [c10b0] | (simp only [i64_w, i32_w]; rw [c10b0]) | skip)
     have H' := Aside0.mk H
     clear H
     have hnb11 := NB160_161.out
     have hnc11 := NB161_160.out
     have hcz12_0 : w5.cell? ⟨gb160, 0, none⟩ = some (.int .i64 a0_0) := (blk_cell BK160.out 0).trans rfl
     have hcz12_1 : w5.cell? ⟨gb160, 1, none⟩ = some (.int .i64 a0_1) := (blk_cell BK160.out 1).trans rfl
     have hfz12_0 := blk_frozen BK160.out 0
     have hfz12_1 := blk_frozen BK160.out 1
     go_wp2_with (first | ((with_reducible refine gate_callee (f := 54) rfl ?_); refine goesL_ (some 11) rfl rfl Tryd.func54 (by kernel_rfl) rfl #[.agg #[.int .i64 a0_0, .int .i64 a0_1]] rfl (by (try simp only [List.map_toArray, List.map_cons, List.map_nil]); first | done | rfl | (simp only [List.length_drop, List.length_take]; rfl)) ?_; (with_reducible refine (spec_FractionOk.calls k a0_0 a0_1 true _ A6.out).mono ?_); rintro e w13 ⟨rfl, hb⟩; refine ⟨_, rfl, ?_⟩; have n0_ := Aside0.mk (blk_below (g := gb160) (o := .cells #[.int .i64 a0_0, .int .i64 a0_1] 25 (0, 0)) (kbq4 BK160.out) hb); have n1_ := Aside0.mk (blk_below (g := gb161) (o := .cells #[.int .i64 0, .int .i64 0] 25 (0, 0)) (kbq4 BK161.out) hb); have n2_ := Aside0.mk (below_step (lb2q4 HB.out GE160.out GE161.out) hb); clear BK160; clear BK161; clear HB; have BK160 := n0_; have BK161 := n1_; have HB := n2_; clear n0_ n1_ n2_; (try clear hb); (try clear hb2); (try clear hk); (try clear hi); have hcz14_0 : w13.cell? ⟨gb160, 0, none⟩ = some (.int .i64 a0_0) := (blk_cell BK160.out 0).trans rfl; have hcz14_1 : w13.cell? ⟨gb160, 1, none⟩ = some (.int .i64 a0_1) := (blk_cell BK160.out 1).trans rfl; have hfz14_0 := blk_frozen BK160.out 0; have hfz14_1 := blk_frozen BK160.out 1) | (go_at_call 59; (with_reducible refine (spec_l1In.calls a0_0 (-1000) 1000 true _ A8.out).mono ?_); rintro e w' ⟨rfl, ⟨nd, rfl⟩⟩))
     go_meet
     case rel => exact ⟨_, (true), (by first | rfl | (simp; done) | (simp [*]; done)), H', ⟨by first | omega | exact Nat.le_refl _⟩, ⟨kbq4 BK160.out⟩, ⟨kbq4 BK161.out⟩, ⟨lb2q4 HB.out GE160.out GE161.out⟩⟩
    ·
     rw [if_neg c10] at H
     have c10b0 : decide (1000 < a0_1) = false := decide_eq_false c10
     clear c10
     (first | rw [c10b0] | (simp only [i64_w, i32_w]; rw [c10b0]) | skip)
     have H' := Aside0.mk H
     clear H
     have hnb15 := NB160_161.out
     have hnc15 := NB161_160.out
     have hcz16_0 : w5.cell? ⟨gb160, 0, none⟩ = some (.int .i64 a0_0) := (blk_cell BK160.out 0).trans rfl
     have hcz16_1 : w5.cell? ⟨gb160, 1, none⟩ = some (.int .i64 a0_1) := (blk_cell BK160.out 1).trans rfl
     have hfz16_0 := blk_frozen BK160.out 0
     have hfz16_1 := blk_frozen BK160.out 1
     go_wp2_with (first | ((with_reducible refine gate_callee (f := 54) rfl ?_); refine goesL_ (some 11) rfl rfl Tryd.func54 (by kernel_rfl) rfl #[.agg #[.int .i64 a0_0, .int .i64 a0_1]] rfl (by (try simp only [List.map_toArray, List.map_cons, List.map_nil]); first | done | rfl | (simp only [List.length_drop, List.length_take]; rfl)) ?_; (with_reducible refine (spec_FractionOk.calls k a0_0 a0_1 true _ A6.out).mono ?_); rintro e w17 ⟨rfl, hb⟩; refine ⟨_, rfl, ?_⟩; have n0_ := Aside0.mk (blk_below (g := gb160) (o := .cells #[.int .i64 a0_0, .int .i64 a0_1] 25 (0, 0)) (kbq4 BK160.out) hb); have n1_ := Aside0.mk (blk_below (g := gb161) (o := .cells #[.int .i64 0, .int .i64 0] 25 (0, 0)) (kbq4 BK161.out) hb); have n2_ := Aside0.mk (below_step (lb2q4 HB.out GE160.out GE161.out) hb); clear BK160; clear BK161; clear HB; have BK160 := n0_; have BK161 := n1_; have HB := n2_; clear n0_ n1_ n2_; (try clear hb); (try clear hb2); (try clear hk); (try clear hi); have hcz18_0 : w17.cell? ⟨gb160, 0, none⟩ = some (.int .i64 a0_0) := (blk_cell BK160.out 0).trans rfl; have hcz18_1 : w17.cell? ⟨gb160, 1, none⟩ = some (.int .i64 a0_1) := (blk_cell BK160.out 1).trans rfl; have hfz18_0 := blk_frozen BK160.out 0; have hfz18_1 := blk_frozen BK160.out 1) | (go_at_call 59; (with_reducible refine (spec_l1In.calls a0_0 (-1000) 1000 true _ A8.out).mono ?_); rintro e w' ⟨rfl, ⟨nd, rfl⟩⟩))
     go_meet
     case rel => exact ⟨_, (decide ((a1.size : Int) > 1000)), (by first | rfl | (simp; done) | (simp [*]; done)), H', ⟨by first | omega | exact Nat.le_refl _⟩, ⟨kbq4 BK160.out⟩, ⟨kbq4 BK161.out⟩, ⟨lb2q4 HB.out GE160.out GE161.out⟩⟩
   ·
    replace c9 := Bool.eq_false_iff.mpr c9
    subst c9
    have H1 : (spec_LongFrom.j0 k a1 true a0_0 a0_1) = some (r1, r2, r3) := by rw [if_neg (show ¬ (false = true) by decide)] at H; exact H
    clear H
    have H := H1
    clear H1
    have H' := Aside0.mk H
    clear H
    have hnb19 := NB160_161.out
    have hnc19 := NB161_160.out
    have hcz20_0 : w5.cell? ⟨gb160, 0, none⟩ = some (.int .i64 a0_0) := (blk_cell BK160.out 0).trans rfl
    have hcz20_1 : w5.cell? ⟨gb160, 1, none⟩ = some (.int .i64 a0_1) := (blk_cell BK160.out 1).trans rfl
    have hfz20_0 := blk_frozen BK160.out 0
    have hfz20_1 := blk_frozen BK160.out 1
    go_wp2_with (first | ((with_reducible refine gate_callee (f := 54) rfl ?_); refine goesL_ (some 11) rfl rfl Tryd.func54 (by kernel_rfl) rfl #[.agg #[.int .i64 a0_0, .int .i64 a0_1]] rfl (by (try simp only [List.map_toArray, List.map_cons, List.map_nil]); first | done | rfl | (simp only [List.length_drop, List.length_take]; rfl)) ?_; (with_reducible refine (spec_FractionOk.calls k a0_0 a0_1 true _ A6.out).mono ?_); rintro e w21 ⟨rfl, hb⟩; refine ⟨_, rfl, ?_⟩; have n0_ := Aside0.mk (blk_below (g := gb160) (o := .cells #[.int .i64 a0_0, .int .i64 a0_1] 25 (0, 0)) (kbq4 BK160.out) hb); have n1_ := Aside0.mk (blk_below (g := gb161) (o := .cells #[.int .i64 0, .int .i64 0] 25 (0, 0)) (kbq4 BK161.out) hb); have n2_ := Aside0.mk (below_step (lb2q4 HB.out GE160.out GE161.out) hb); clear BK160; clear BK161; clear HB; have BK160 := n0_; have BK161 := n1_; have HB := n2_; clear n0_ n1_ n2_; (try clear hb); (try clear hb2); (try clear hk); (try clear hi); have hcz22_0 : w21.cell? ⟨gb160, 0, none⟩ = some (.int .i64 a0_0) := (blk_cell BK160.out 0).trans rfl; have hcz22_1 : w21.cell? ⟨gb160, 1, none⟩ = some (.int .i64 a0_1) := (blk_cell BK160.out 1).trans rfl; have hfz22_0 := blk_frozen BK160.out 0; have hfz22_1 := blk_frozen BK160.out 1) | (go_at_call 59; (with_reducible refine (spec_l1In.calls a0_0 (-1000) 1000 false _ A8.out).mono ?_); rintro e w' ⟨rfl, ⟨nd, rfl⟩⟩))
    go_meet
    case rel => exact ⟨_, (true), (by first | rfl | (simp; done) | (simp [*]; done)), H', ⟨by first | omega | exact Nat.le_refl _⟩, ⟨kbq4 BK160.out⟩, ⟨kbq4 BK161.out⟩, ⟨lb2q4 HB.out GE160.out GE161.out⟩⟩
  ·
   replace c7 := Bool.eq_false_iff.mpr c7
   subst c7
   have H1 : (spec_LongFrom.j0 k a1 true a0_0 a0_1) = some (r1, r2, r3) := by rw [if_neg (show ¬ (false = true) by decide)] at H; exact H
   clear H
   have H := H1
   clear H1
   have H' := Aside0.mk H
   clear H
   have hnb23 := NB160_161.out
   have hnc23 := NB161_160.out
   have hcz24_0 : w5.cell? ⟨gb160, 0, none⟩ = some (.int .i64 a0_0) := (blk_cell BK160.out 0).trans rfl
   have hcz24_1 : w5.cell? ⟨gb160, 1, none⟩ = some (.int .i64 a0_1) := (blk_cell BK160.out 1).trans rfl
   have hfz24_0 := blk_frozen BK160.out 0
   have hfz24_1 := blk_frozen BK160.out 1
   go_wp2_with (first | ((with_reducible refine gate_callee (f := 54) rfl ?_); refine goesL_ (some 11) rfl rfl Tryd.func54 (by kernel_rfl) rfl #[.agg #[.int .i64 a0_0, .int .i64 a0_1]] rfl (by (try simp only [List.map_toArray, List.map_cons, List.map_nil]); first | done | rfl | (simp only [List.length_drop, List.length_take]; rfl)) ?_; (with_reducible refine (spec_FractionOk.calls k a0_0 a0_1 false _ A6.out).mono ?_); rintro e w25 ⟨rfl, hb⟩; refine ⟨_, rfl, ?_⟩; have n0_ := Aside0.mk (blk_below (g := gb160) (o := .cells #[.int .i64 a0_0, .int .i64 a0_1] 25 (0, 0)) (kbq4 BK160.out) hb); have n1_ := Aside0.mk (blk_below (g := gb161) (o := .cells #[.int .i64 0, .int .i64 0] 25 (0, 0)) (kbq4 BK161.out) hb); have n2_ := Aside0.mk (below_step (lb2q4 HB.out GE160.out GE161.out) hb); clear BK160; clear BK161; clear HB; have BK160 := n0_; have BK161 := n1_; have HB := n2_; clear n0_ n1_ n2_; (try clear hb); (try clear hb2); (try clear hk); (try clear hi)))
   go_meet
   case rel => exact ⟨_, (true), (by first | rfl | (simp; done) | (simp [*]; done)), H', ⟨by first | omega | exact Nat.le_refl _⟩, ⟨kbq4 BK160.out⟩, ⟨kbq4 BK161.out⟩, ⟨lb2q4 HB.out GE160.out GE161.out⟩⟩
 case rest =>
  clear HC3; (try clear c1); (try clear c2); (try clear p2); (try clear c5); (try clear c7); (try clear c9); (try clear c10); (try clear c10b0); (try clear c11); (try clear c15); (try clear c19); (try clear c21); (try clear c23); (try clear hcz12_0); (try clear hcz12_1); (try clear hcz14_0); (try clear hcz14_1); (try clear hcz16_0); (try clear hcz16_1); (try clear hcz18_0); (try clear hcz18_1); (try clear hcz20_0); (try clear hcz20_1); (try clear hcz22_0); (try clear hcz22_1); (try clear hcz24_0); (try clear hcz24_1); (try clear hfz12_0); (try clear hfz12_1); (try clear hfz14_0); (try clear hfz14_1); (try clear hfz16_0); (try clear hfz16_1); (try clear hfz18_0); (try clear hfz18_1); (try clear hfz20_0); (try clear hfz20_1); (try clear hfz22_0); (try clear hfz22_1); (try clear hfz24_0); (try clear hfz24_1)
  obtain ⟨kq, x28_2, rfl, HA, HJ2, BK160, BK161, HB⟩ := hcut
  cases kq with
  | zero => exact absurd HA.out (by simp [spec_LongFrom.j0])
  | succ kj2 =>
   have H := HA.out
   clear HA
   simp only [spec_LongFrom.j0] at H
   by_cases c26 : x28_2 = true
   ·
    subst c26
    have H1 : (some (0, 0, false)) = some (r1, r2, r3) := by rw [if_pos rfl] at H; exact H
    clear H
    have H := H1
    clear H1
    simp only [Option.some.injEq, Prod.mk.injEq] at H
    obtain ⟨rfl, rfl, rfl⟩ := H
    have hnb27 := NB161_160.out
    have hnc27 := NB160_161.out
    have hcz28_0 : wc.cell? ⟨gb161, 0, none⟩ = some (.int .i64 0) := (blk_cell BK161.out 0).trans rfl
    have hcz28_1 : wc.cell? ⟨gb161, 1, none⟩ = some (.int .i64 0) := (blk_cell BK161.out 1).trans rfl
    have hfz28_0 := blk_frozen BK161.out 0
    have hfz28_1 := blk_frozen BK161.out 1
    go_wp2
    refine bodyPost_ret (results_ct rfl _ _ gb161 25 #[.int .i64 0, .int .i64 0] (0, 0) _ rfl (by (with_reducible repeat (first | refine blk_drewN ?_ _ | refine blk_drew ?_ | refine blk_alloc ?_ _)); refine blk_put (cs := #[.int .i64 0, .int .i64 0]) ?_ 1 _ rfl; (with_reducible repeat (first | refine blk_drewN ?_ _ | refine blk_drew ?_ | refine blk_alloc ?_ _)); refine blk_put (cs := #[.int .i64 0, .int .i64 0]) ?_ 0 _ rfl; (with_reducible repeat (first | refine blk_drewN ?_ _ | refine blk_drew ?_ | refine blk_alloc ?_ _)); exact BK161.out) Tryd.underlying25 rfl (by kernel_rfl)) rfl ?_
    exact ⟨by first | rfl | (simp [errW_none, errW_some] <;> rfl) | (simp [*, errW_none, errW_some] <;> rfl), by repeat (first | (with_reducible first | exact HB.out | apply below_alloc | apply pw_below_drewN | apply below_drew1 | refine below_set ?_ GE160.out | refine below_set ?_ GE161.out) | exact HB.out)⟩
   ·
    replace c26 := Bool.eq_false_iff.mpr c26
    subst c26
    have H1 : (spec_LongFrom.l0 kj2 a1 0 a0_0 a0_1) = some (r1, r2, r3) := by rw [if_neg (show ¬ (false = true) by decide)] at H; exact H
    clear H
    have H := H1
    clear H1
    have H' := Aside0.mk H
    clear H
    have hnb29 := NB160_161.out
    have hnc29 := NB161_160.out
    have hcz30_0 : wc.cell? ⟨gb160, 0, none⟩ = some (.int .i64 a0_0) := (blk_cell BK160.out 0).trans rfl
    have hcz30_1 : wc.cell? ⟨gb160, 1, none⟩ = some (.int .i64 a0_1) := (blk_cell BK160.out 1).trans rfl
    have hfz30_0 := blk_frozen BK160.out 0
    have hfz30_1 := blk_frozen BK160.out 1
    go_wp2_with (first | ((with_reducible refine gate_dst (N := 6) rfl ?_); (try (refine gate_guard (by rfl) ?_; dsimp only)); refine box_event ?hg (N := 6) ?hd (cs := #[.int .i64 0, .int .i64 0]) (t := 25) ?hr ?_; (case hd => rfl); (case hg => rfl); (case hr => first | (go_simp; done) | (go_simp; rfl)); intro gb164 hg w31 hbox hb; have n0_ := Aside0.mk (blk_below (g := gb160) (o := .cells #[.int .i64 a0_0, .int .i64 a0_1] 25 (0, 0)) (kbq4 BK160.out) hb); have n1_ := Aside0.mk (blk_below (g := gb161) (o := .cells #[.int .i64 0, .int .i64 0] 25 (0, 0)) (kbq4 BK161.out) hb); have n2_ := Aside0.mk (below_step (lb2q4 HB.out GE160.out GE161.out) hb); have n3_ := Aside0.mk (hbox); have n4_ := Aside0.mk ((by rw [hg]; exact (below_size (lb2q4 HB.out GE160.out GE161.out)) : w.heap.size ≤ gb164)); have n5_ := Aside0.mk ((by rw [hg]; exact (below_size (lb2q4 HB.out GE160.out GE161.out)) : w.heap.size ≤ gb164)); have n6_ := Aside0.mk ((by rw [hg]; exact Nat.ne_of_lt (blk_lt (g := gb160) (o := .cells #[.int .i64 a0_0, .int .i64 a0_1] 25 (0, 0)) (kbq4 BK160.out)) : gb160 ≠ gb164)); have n7_ := Aside0.mk ((by rw [hg]; exact Nat.ne_of_gt (blk_lt (g := gb160) (o := .cells #[.int .i64 a0_0, .int .i64 a0_1] 25 (0, 0)) (kbq4 BK160.out)) : gb164 ≠ gb160)); have n8_ := Aside0.mk ((by rw [hg]; exact Nat.ne_of_lt (blk_lt (g := gb161) (o := .cells #[.int .i64 0, .int .i64 0] 25 (0, 0)) (kbq4 BK161.out)) : gb161 ≠ gb164)); have n9_ := Aside0.mk ((by rw [hg]; exact Nat.ne_of_gt (blk_lt (g := gb161) (o := .cells #[.int .i64 0, .int .i64 0] 25 (0, 0)) (kbq4 BK161.out)) : gb164 ≠ gb161)); clear BK160; clear BK161; clear HB; have BK160 := n0_; have BK161 := n1_; have HB := n2_; have BK164 := n3_; have GW164 := n4_; have GE164 := n5_; have NB160_164 := n6_; have NB164_160 := n7_; have NB161_164 := n8_; have NB164_161 := n9_; clear n0_ n1_ n2_ n3_ n4_ n5_ n6_ n7_ n8_ n9_; clear hb hbox hg; have hnb32 := NB164_160.out; have hnc32 := NB160_164.out; have hnb33 := NB164_161.out; have hnc33 := NB161_164.out; have hcz34_0 : w31.cell? ⟨gb164, 0, none⟩ = some (.int .i64 0) := (blk_cell BK164.out 0).trans rfl; have hcz34_1 : w31.cell? ⟨gb164, 1, none⟩ = some (.int .i64 0) := (blk_cell BK164.out 1).trans rfl; have hfz34_0 := blk_frozen BK164.out 0; have hfz34_1 := blk_frozen BK164.out 1))
    go_loopg [7] kj2 (fun kq v7 w' => ∃ (x7_2 : Int) (x162000_2 : Int) (x162001_2 : Int) (x165000_2 : Int) (x165001_2 : Int), v7 = .int .i64 x7_2 ∧ Aside0 (spec_LongFrom.l0 kq a1 x7_2 x165000_2 x165001_2 = some (r1, r2, r3)) ∧ Aside0 (kq ≤ kj2) ∧ Aside0 (w'.heap[gb160]? = some (.cells #[.int .i64 a0_0, .int .i64 a0_1] 25 (0, 0))) ∧ Aside0 (w'.heap[gb161]? = some (.cells #[.int .i64 x162000_2, .int .i64 x162001_2] 25 (0, 0))) ∧ Aside0 (w'.heap[gb164]? = some (.cells #[.int .i64 x165000_2, .int .i64 x165001_2] 25 (0, 0))) ∧ Aside0 (Below w.heap.size w w'))
    case atStart => exact ⟨(0), (0), (0), (a0_0), (a0_1), (by first | rfl | (simp; done) | (simp [*]; done)), H', ⟨Nat.le_refl _⟩, ⟨kf1q4 BK160.out NB160_164.out⟩, ⟨kf1q4 BK161.out NB161_164.out⟩, ⟨by (with_reducible repeat (first | refine blk_drewN ?_ _ | refine blk_drew ?_ | refine blk_alloc ?_ _)); refine blk_put (cs := #[.int .i64 a0_0, .int .i64 0]) ?_ 1 _ rfl; (with_reducible repeat (first | refine blk_drewN ?_ _ | refine blk_drew ?_ | refine blk_alloc ?_ _)); refine blk_put (cs := #[.int .i64 0, .int .i64 0]) ?_ 0 _ rfl; (with_reducible repeat (first | refine blk_drewN ?_ _ | refine blk_drew ?_ | refine blk_alloc ?_ _)); exact BK164.out⟩, ⟨lb3q4 HB.out GE160.out GE161.out GE164.out⟩⟩
    case round =>
     clear H'; (try clear c1); (try clear c2); (try clear p2); (try clear c3); (try clear c5); (try clear c7); (try clear c9); (try clear c10); (try clear c10b0); (try clear c11); (try clear c15); (try clear c19); (try clear c21); (try clear c23); (try clear c26); (try clear c27); (try clear c29); (try clear c32); (try clear c33); (try clear hcz12_0); (try clear hcz12_1); (try clear hcz14_0); (try clear hcz14_1); (try clear hcz16_0); (try clear hcz16_1); (try clear hcz18_0); (try clear hcz18_1); (try clear hcz20_0); (try clear hcz20_1); (try clear hcz22_0); (try clear hcz22_1); (try clear hcz24_0); (try clear hcz24_1); (try clear hcz28_0); (try clear hcz28_1); (try clear hcz30_0); (try clear hcz30_1); (try clear hcz34_0); (try clear hcz34_1); (try clear hfz12_0); (try clear hfz12_1); (try clear hfz14_0); (try clear hfz14_1); (try clear hfz16_0); (try clear hfz16_1); (try clear hfz18_0); (try clear hfz18_1); (try clear hfz20_0); (try clear hfz20_1); (try clear hfz22_0); (try clear hfz22_1); (try clear hfz24_0); (try clear hfz24_1); (try clear hfz28_0); (try clear hfz28_1); (try clear hfz30_0); (try clear hfz30_1); (try clear hfz34_0); (try clear hfz34_1); (try clear p2)
     obtain ⟨x7_2, x162000_2, x162001_2, x165000_2, x165001_2, rfl, HA, HK2, BK160, BK161, BK164, HB⟩ := hrel
     cases gk with
     | zero => exact absurd HA.out (by simp [spec_LongFrom.l0])
     | succ k2 =>
      have H := HA.out
      clear HA
      simp only [spec_LongFrom.l0] at H
      by_cases c35 : x7_2 < (a1.size : Int)
      ·
       rw [if_pos c35] at H
       have c35b0 : decide (x7_2 < (a1.size : Int)) = true := decide_eq_true c35
       clear c35
       by_cases c36 : 0 ≤ x7_2
       ·
        rw [if_pos c36] at H
        have c36b0 := eq_true c36
        have c36b1 : decide (0 ≤ x7_2) = true := decide_eq_true c36
        clear c36
        by_cases c37 : x7_2 ≤ (wrap64 (x7_2 + 1))
        ·
         rw [if_pos c37] at H
         have c37b0 := eq_true c37
         have c37b1 : decide (x7_2 ≤ (wrap64 (x7_2 + 1))) = true := decide_eq_true c37
         by_cases c38 : (wrap64 (x7_2 + 1)) ≤ (a1.size : Int)
         ·
          rw [if_pos c38] at H
          have c38b0 := eq_true c38
          have c38b1 : decide ((wrap64 (x7_2 + 1)) ≤ (a1.size : Int)) = true := decide_eq_true c38
          replace H := Option.bind_eq_some_iff.mp H
          obtain ⟨t165, A390, H⟩ := H
          replace H : (if t165 = true then ((spec_l2Move.f k2 x165000_2 x165001_2 (bt a1 x7_2)).bind fun bt166 => (if bt166.2.2 = true then (spec_LongFrom.l0 k2 a1 (wrap64 (x7_2 + 1)) bt166.1 bt166.2.1) else (some (0, 0, false)))) else (some (0, 0, false))) = some (r1, r2, r3) := H
          have A39 := Aside0.mk A390
          clear A390
          by_cases c40 : t165 = true
          ·
           subst c40
           have H1 : ((spec_l2Move.f k2 x165000_2 x165001_2 (bt a1 x7_2)).bind fun bt166 => (if bt166.2.2 = true then (spec_LongFrom.l0 k2 a1 (wrap64 (x7_2 + 1)) bt166.1 bt166.2.1) else (some (0, 0, false)))) = some (r1, r2, r3) := by rw [if_pos rfl] at H; exact H
           clear H
           have H := H1
           clear H1
           replace H := Option.bind_eq_some_iff.mp H
           obtain ⟨⟨t166, t167, t168⟩, A420, H⟩ := H
           replace H : (if t168 = true then (spec_LongFrom.l0 k2 a1 (wrap64 (x7_2 + 1)) t166 t167) else (some (0, 0, false))) = some (r1, r2, r3) := H
           have A42 := Aside0.mk A420
           clear A420
           by_cases c43 : t168 = true
           ·
            subst c43
            have H1 : (spec_LongFrom.l0 k2 a1 (wrap64 (x7_2 + 1)) t166 t167) = some (r1, r2, r3) := by rw [if_pos rfl] at H; exact H
            clear H
            have H := H1
            clear H1
            have H' := Aside0.mk H
            clear H
            try go_wp2_with (first | ((with_reducible refine gate_callee (f := 26) rfl ?_); refine goesL_ (some 42) rfl rfl Tryd.func26 (by kernel_rfl) rfl #[.string (a1.extract (x7_2 : Int).toNat ((wrap64 (x7_2 + 1)) : Int).toNat)] rfl (by (try simp only [List.map_toArray, List.map_cons, List.map_nil]); first | done | rfl | (simp only [List.length_drop, List.length_take]; rfl)) ?_; (with_reducible refine (spec_DanceOk.calls k2 (a1.extract (x7_2 : Int).toNat ((wrap64 (x7_2 + 1)) : Int).toNat) true _ A39.out).mono ?_); rintro e w' ⟨rfl, ⟨nd, rfl⟩⟩; refine ⟨_, rfl, ?_⟩; (try (rw [drewN_self wr]; generalize hq_ : World.drewN wr _ = wr; have n0_ : Aside0 (wr.heap[gb160]? = some (.cells #[.int .i64 a0_0, .int .i64 a0_1] 25 (0, 0))) := ⟨by rw [← hq_]; exact (kbq4 BK160.out)⟩; have n1_ : Aside0 (wr.heap[gb161]? = some (.cells #[.int .i64 x162000_2, .int .i64 x162001_2] 25 (0, 0))) := ⟨by rw [← hq_]; exact (kbq4 BK161.out)⟩; have n2_ : Aside0 (wr.heap[gb164]? = some (.cells #[.int .i64 x165000_2, .int .i64 x165001_2] 25 (0, 0))) := ⟨by rw [← hq_]; exact (kbq4 BK164.out)⟩; have n3_ : Aside0 (Below w.heap.size w wr) := ⟨by rw [← hq_]; exact (lb3q4 HB.out GE160.out GE161.out GE164.out)⟩; clear BK160 BK161 BK164 HB hq_; have BK160 := n0_; have BK161 := n1_; have BK164 := n2_; have HB := n3_; clear n0_ n1_ n2_ n3_))))
            have n0_ := Aside0.mk (blk_drew BK160.out)
            have n1_ := Aside0.mk (blk_drew BK161.out)
            have n2_ := Aside0.mk (blk_drew BK164.out)
            have n3_ := Aside0.mk (below_drew1 HB.out)
            clear BK160; clear BK161; clear BK164; clear HB
            have BK160 := n0_
            have BK161 := n1_
            have BK164 := n2_
            have HB := n3_
            clear n0_ n1_ n2_ n3_
            have p41 : 0 ≤ (x7_2 : Int) := of_decide_eq_true (by first | (with_reducible assumption) | assumption)
            have q41 : x7_2 < (a1.size : Int) := of_decide_eq_true (by first | (with_reducible assumption) | assumption)
            have hx41 := bt_at a1 x7_2
            replace p41 := eq_true p41
            replace q41 := eq_true q41
            refine start_ (n := 11) (S := fun w' => w'.cell? ⟨gb164, 0, none⟩ = some (.int .i64 x165000_2) ∧ w'.cell? ⟨gb164, 1, none⟩ = some (.int .i64 x165001_2)) (ds := []) #[false, false, false, false, false, false, false, false, false, false, false] (by kernel_rfl) rfl rfl ⟨(blk_cell BK164.out 0).trans rfl, (blk_cell BK164.out 1).trans rfl⟩ (fun hHeld => ?_); refine with_tabW spec_LongFrom.tab9 spec_LongFrom.bits9 (fun HT_ HW_ => ?_)
            generalize wr.drew = w44 at BK160 BK161 BK164 HB hHeld ⊢
            refine pure_ (i := 1) (N := some 47) (v := ?_) (a' := ?_) #[false, true, false, false, false, false, false, false, false, false, false] rfl rfl (any_of HT_.out (by kernel_rfl)) (fun _ _ _ h => h) (Or.inl ⟨by rfl, ?_⟩) ?_ ?_
            rotate_left
            ·
             intro w'
             go_simp
             with_reducible rfl
            rotate_left
            ·
             simp only [Act.put, List.setIfInBounds_toArray, List.set_cons_zero, List.set_cons_succ, i64_w, i32_w]
             rfl
            refine pure_ (i := 2) (N := some 48) (v := ?_) (a' := ?_) #[false, true, true, false, false, false, false, false, false, false, false] rfl rfl (any_of HT_.out (by kernel_rfl)) (fun _ _ _ h => h) (Or.inl ⟨by rfl, ?_⟩) ?_ ?_
            rotate_left
            ·
             intro w'
             go_simp
             with_reducible rfl
            rotate_left
            ·
             simp only [Act.put, List.setIfInBounds_toArray, List.set_cons_zero, List.set_cons_succ, i64_w, i32_w]
             rfl
            refine take_ (i := 0) (N := some 46) (v := ?_) (a' := ?_) #[true, true, true, false, false, false, false, false, false, false, false] rfl rfl (take_ofW HT_.out HW_.out (by kernel_rfl)) (fun _ _ _ h => h) (Or.inl ⟨by rfl, ?_⟩) hHeld ?_ ?_
            rotate_left
            ·
             rintro w' ⟨s0, s1⟩
             go_simp
             with_reducible rfl
            rotate_left
            ·
             simp only [Act.put, List.setIfInBounds_toArray, List.set_cons_zero, List.set_cons_succ, i64_w, i32_w]
             rfl
            refine take_ (i := 3) (N := some 49) (v := ?_) (a' := ?_) #[true, true, true, true, false, false, false, false, false, false, false] rfl rfl (take_ofW HT_.out HW_.out (by kernel_rfl)) (fun _ _ _ h => h) (Or.inl ⟨by rfl, ?_⟩) hHeld ?_ ?_
            rotate_left
            ·
             rintro w' ⟨s0, s1⟩
             go_simp
             with_reducible rfl
            rotate_left
            ·
             simp only [Act.put, List.setIfInBounds_toArray, List.set_cons_zero, List.set_cons_succ, i64_w, i32_w]
             rfl
            refine join_ (σ := Nat) 2 #[true, true, true, true, true, true, true, true, true, false, false] (fun s_ => [(50, .tuple #[.agg #[.int .i64 t166, .int .i64 t167], .bool true]), (8, .pointer (some ⟨s_, 0, none⟩)), (45, .tuple #[.agg #[.int .i64 t166, .int .i64 t167], .bool true]), (51, .agg #[.int .i64 t166, .int .i64 t167]), (52, .bool true)]) (fun s_ w' => (w'.cell? ⟨gb164, 0, none⟩ = some (.int .i64 x165000_2) ∧ w'.cell? ⟨gb164, 1, none⟩ = some (.int .i64 x165001_2)) ∧ (w'.heap[gb160]? = some (.cells #[.int .i64 a0_0, .int .i64 a0_1] 25 (0, 0))) ∧ (w'.heap[gb161]? = some (.cells #[.int .i64 x162000_2, .int .i64 x162001_2] 25 (0, 0))) ∧ (w'.heap[gb164]? = some (.cells #[.int .i64 x165000_2, .int .i64 x165001_2] 25 (0, 0))) ∧ (w'.heap[s_]? = some (.cells #[.int .i64 0, .int .i64 0] 25 (0, 0))) ∧ (w.heap.size ≤ s_) ∧ (w.heap.size ≤ s_) ∧ (gb160 ≠ s_) ∧ (s_ ≠ gb160) ∧ (gb161 ≠ s_) ∧ (s_ ≠ gb161) ∧ (gb164 ≠ s_) ∧ (s_ ≠ gb164) ∧ (Below w.heap.size w w')) ?_ ?_
            rotate_left
            ·
             intro hCont
             refine two_ (i := 4) (j := 8) (Ni := some 50) (Nj := some 8) #[true, true, true, true, true, false, false, false, false, false, false] #[true, true, true, true, false, false, false, false, true, false, false] rfl rfl rfl rfl (two_of HT_.out (by kernel_rfl)) (by decide) (by decide) (fun K hK => ?_) (fun K hK => ?_)
             ·
              skip
              refine goes_ Tryd.func55 (by kernel_rfl) rfl #[.agg #[.int .i64 x165000_2, .int .i64 x165001_2], .int .u8 (bt a1 x7_2)] (by rfl) rfl rfl (by (try simp only [List.map_toArray, List.map_cons, List.map_nil]); first | done | rfl | (simp only [List.length_drop, List.length_take]; rfl)) ?_
              with_reducible refine (spec_l2Move.calls k2 x165000_2 x165001_2 (bt a1 x7_2) t166 t167 true _ A42.out).mono ?_
              rintro e w45 ⟨rfl, hb⟩
              refine ⟨_, rfl, ?_⟩
              have n0_ := Aside0.mk (blk_below (g := gb160) (o := .cells #[.int .i64 a0_0, .int .i64 a0_1] 25 (0, 0)) (kbq4 BK160.out) hb)
              have n1_ := Aside0.mk (blk_below (g := gb161) (o := .cells #[.int .i64 x162000_2, .int .i64 x162001_2] 25 (0, 0)) (kbq4 BK161.out) hb)
              have n2_ := Aside0.mk (blk_below (g := gb164) (o := .cells #[.int .i64 x165000_2, .int .i64 x165001_2] 25 (0, 0)) (kbq4 BK164.out) hb)
              have n3_ := Aside0.mk (below_step (lb3q4 HB.out GE160.out GE161.out GE164.out) hb)
              clear BK160; clear BK161; clear BK164; clear HB
              have BK160 := n0_
              have BK161 := n1_
              have BK164 := n2_
              have HB := n3_
              clear n0_ n1_ n2_ n3_
              (try clear hb)
              (try clear hb2)
              (try clear hk)
              (try clear hi)
              refine hK.out _ _ ⟨(blk_cell BK164.out 0).trans rfl, (blk_cell BK164.out 1).trans rfl⟩ (fun hHeld => ?_)
              clear hK K
              refine norm_ (a' := ?_) ?_ ?_
              rotate_left
              ·
               show Act.put _ (some 50) _ = _
               simp only [Act.put, List.setIfInBounds_toArray, List.set_cons_zero, List.set_cons_succ, i64_w, i32_w]
               rfl
              refine pure_ (i := 5) (N := some 45) (v := ?_) (a' := ?_) #[true, true, true, true, true, true, false, false, false, false, false] rfl rfl (any_of HT_.out (by kernel_rfl)) (fun _ _ _ h => h) (Or.inl ⟨by rfl, ?_⟩) ?_ ?_
              rotate_left
              ·
               intro w'
               go_simp
               with_reducible rfl
              rotate_left
              ·
               simp only [Act.put, List.setIfInBounds_toArray, List.set_cons_zero, List.set_cons_succ, i64_w, i32_w]
               rfl
              refine pure_ (i := 6) (N := some 51) (v := ?_) (a' := ?_) #[true, true, true, true, true, true, true, false, false, false, false] rfl rfl (any_of HT_.out (by kernel_rfl)) (fun _ _ _ h => h) (Or.inl ⟨by rfl, ?_⟩) ?_ ?_
              rotate_left
              ·
               intro w'
               go_simp
               with_reducible rfl
              rotate_left
              ·
               simp only [Act.put, List.setIfInBounds_toArray, List.set_cons_zero, List.set_cons_succ, i64_w, i32_w]
               rfl
              refine pure_ (i := 7) (N := some 52) (v := ?_) (a' := ?_) #[true, true, true, true, true, true, true, true, false, false, false] rfl rfl (any_of HT_.out (by kernel_rfl)) (fun _ _ _ h => h) (Or.inl ⟨by rfl, ?_⟩) ?_ ?_
              rotate_left
              ·
               intro w'
               go_simp
               with_reducible rfl
              rotate_left
              ·
               simp only [Act.put, List.setIfInBounds_toArray, List.set_cons_zero, List.set_cons_succ, i64_w, i32_w]
               rfl
              refine one_ (i := 8) (N := some 8) #[true, true, true, true, true, true, true, true, true, false, false] rfl rfl (one_of HT_.out (by kernel_rfl)) (by decide) (fun K hK => ?_)
              refine box_step ?hg (N := 8) ?hd (cs := #[.int .i64 0, .int .i64 0]) (t := 25) ?hr ?_; (case hd => rfl); (case hg => rfl); (case hr => first | (go_simp; done) | (go_simp; rfl))
              intro gb169 hg w46 hbox hb
              have n0_ := Aside0.mk (blk_below (g := gb160) (o := .cells #[.int .i64 a0_0, .int .i64 a0_1] 25 (0, 0)) (kbq4 BK160.out) hb)
              have n1_ := Aside0.mk (blk_below (g := gb161) (o := .cells #[.int .i64 x162000_2, .int .i64 x162001_2] 25 (0, 0)) (kbq4 BK161.out) hb)
              have n2_ := Aside0.mk (blk_below (g := gb164) (o := .cells #[.int .i64 x165000_2, .int .i64 x165001_2] 25 (0, 0)) (kbq4 BK164.out) hb)
              have n3_ := Aside0.mk (below_step (lb3q4 HB.out GE160.out GE161.out GE164.out) hb)
              have n4_ := Aside0.mk (hbox)
              have n5_ := Aside0.mk ((by rw [hg]; exact (below_size (lb3q4 HB.out GE160.out GE161.out GE164.out)) : w.heap.size ≤ gb169))
              have n6_ := Aside0.mk ((by rw [hg]; exact (below_size (lb3q4 HB.out GE160.out GE161.out GE164.out)) : w.heap.size ≤ gb169))
              have n7_ := Aside0.mk ((by rw [hg]; exact Nat.ne_of_lt (blk_lt (g := gb160) (o := .cells #[.int .i64 a0_0, .int .i64 a0_1] 25 (0, 0)) (kbq4 BK160.out)) : gb160 ≠ gb169))
              have n8_ := Aside0.mk ((by rw [hg]; exact Nat.ne_of_gt (blk_lt (g := gb160) (o := .cells #[.int .i64 a0_0, .int .i64 a0_1] 25 (0, 0)) (kbq4 BK160.out)) : gb169 ≠ gb160))
              have n9_ := Aside0.mk ((by rw [hg]; exact Nat.ne_of_lt (blk_lt (g := gb161) (o := .cells #[.int .i64 x162000_2, .int .i64 x162001_2] 25 (0, 0)) (kbq4 BK161.out)) : gb161 ≠ gb169))
              have n10_ := Aside0.mk ((by rw [hg]; exact Nat.ne_of_gt (blk_lt (g := gb161) (o := .cells #[.int .i64 x162000_2, .int .i64 x162001_2] 25 (0, 0)) (kbq4 BK161.out)) : gb169 ≠ gb161))
              have n11_ := Aside0.mk ((by rw [hg]; exact Nat.ne_of_lt (blk_lt (g := gb164) (o := .cells #[.int .i64 x165000_2, .int .i64 x165001_2] 25 (0, 0)) (kbq4 BK164.out)) : gb164 ≠ gb169))
              have n12_ := Aside0.mk ((by rw [hg]; exact Nat.ne_of_gt (blk_lt (g := gb164) (o := .cells #[.int .i64 x165000_2, .int .i64 x165001_2] 25 (0, 0)) (kbq4 BK164.out)) : gb169 ≠ gb164))
              clear BK160; clear BK161; clear BK164; clear HB
              have BK160 := n0_
              have BK161 := n1_
              have BK164 := n2_
              have HB := n3_
              have BK169 := n4_
              have GW169 := n5_
              have GE169 := n6_
              have NB160_169 := n7_
              have NB169_160 := n8_
              have NB161_169 := n9_
              have NB169_161 := n10_
              have NB164_169 := n11_
              have NB169_164 := n12_
              clear n0_ n1_ n2_ n3_ n4_ n5_ n6_ n7_ n8_ n9_ n10_ n11_ n12_
              clear hb hbox hg
              refine hK.out _ _ ⟨(blk_cell BK164.out 0).trans rfl, (blk_cell BK164.out 1).trans rfl⟩ (fun hHeld => ?_)
              clear hK K
              refine norm_ (a' := ?_) ?_ ?_
              rotate_left
              ·
               show Act.put _ (some 8) _ = _
               simp only [Act.put, List.setIfInBounds_toArray, List.set_cons_zero, List.set_cons_succ, i64_w, i32_w]
               rfl
              exact norm_ (by simp only [putAll, Act.put, List.setIfInBounds_toArray, List.set_cons_zero, List.set_cons_succ]) (hCont (gb169) _ ⟨hHeld, (kbq4 BK160.out), (kbq4 BK161.out), (kbq4 BK164.out), (kbq4 BK169.out), GW169.out, GE169.out, NB160_169.out, NB169_160.out, NB161_169.out, NB169_161.out, NB164_169.out, NB169_164.out, (lb4q4 HB.out GE160.out GE161.out GE164.out GE169.out)⟩)
             ·
              skip
              refine box_step ?hg (N := 8) ?hd (cs := #[.int .i64 0, .int .i64 0]) (t := 25) ?hr ?_; (case hd => rfl); (case hg => rfl); (case hr => first | (go_simp; done) | (go_simp; rfl))
              intro gb169 hg w45 hbox hb
              have n0_ := Aside0.mk (blk_below (g := gb160) (o := .cells #[.int .i64 a0_0, .int .i64 a0_1] 25 (0, 0)) (kbq4 BK160.out) hb)
              have n1_ := Aside0.mk (blk_below (g := gb161) (o := .cells #[.int .i64 x162000_2, .int .i64 x162001_2] 25 (0, 0)) (kbq4 BK161.out) hb)
              have n2_ := Aside0.mk (blk_below (g := gb164) (o := .cells #[.int .i64 x165000_2, .int .i64 x165001_2] 25 (0, 0)) (kbq4 BK164.out) hb)
              have n3_ := Aside0.mk (below_step (lb3q4 HB.out GE160.out GE161.out GE164.out) hb)
              have n4_ := Aside0.mk (hbox)
              have n5_ := Aside0.mk ((by rw [hg]; exact (below_size (lb3q4 HB.out GE160.out GE161.out GE164.out)) : w.heap.size ≤ gb169))
              have n6_ := Aside0.mk ((by rw [hg]; exact (below_size (lb3q4 HB.out GE160.out GE161.out GE164.out)) : w.heap.size ≤ gb169))
              have n7_ := Aside0.mk ((by rw [hg]; exact Nat.ne_of_lt (blk_lt (g := gb160) (o := .cells #[.int .i64 a0_0, .int .i64 a0_1] 25 (0, 0)) (kbq4 BK160.out)) : gb160 ≠ gb169))
              have n8_ := Aside0.mk ((by rw [hg]; exact Nat.ne_of_gt (blk_lt (g := gb160) (o := .cells #[.int .i64 a0_0, .int .i64 a0_1] 25 (0, 0)) (kbq4 BK160.out)) : gb169 ≠ gb160))
              have n9_ := Aside0.mk ((by rw [hg]; exact Nat.ne_of_lt (blk_lt (g := gb161) (o := .cells #[.int .i64 x162000_2, .int .i64 x162001_2] 25 (0, 0)) (kbq4 BK161.out)) : gb161 ≠ gb169))
              have n10_ := Aside0.mk ((by rw [hg]; exact Nat.ne_of_gt (blk_lt (g := gb161) (o := .cells #[.int .i64 x162000_2, .int .i64 x162001_2] 25 (0, 0)) (kbq4 BK161.out)) : gb169 ≠ gb161))
              have n11_ := Aside0.mk ((by rw [hg]; exact Nat.ne_of_lt (blk_lt (g := gb164) (o := .cells #[.int .i64 x165000_2, .int .i64 x165001_2] 25 (0, 0)) (kbq4 BK164.out)) : gb164 ≠ gb169))
              have n12_ := Aside0.mk ((by rw [hg]; exact Nat.ne_of_gt (blk_lt (g := gb164) (o := .cells #[.int .i64 x165000_2, .int .i64 x165001_2] 25 (0, 0)) (kbq4 BK164.out)) : gb169 ≠ gb164))
              clear BK160; clear BK161; clear BK164; clear HB
              have BK160 := n0_
              have BK161 := n1_
              have BK164 := n2_
              have HB := n3_
              have BK169 := n4_
              have GW169 := n5_
              have GE169 := n6_
              have NB160_169 := n7_
              have NB169_160 := n8_
              have NB161_169 := n9_
              have NB169_161 := n10_
              have NB164_169 := n11_
              have NB169_164 := n12_
              clear n0_ n1_ n2_ n3_ n4_ n5_ n6_ n7_ n8_ n9_ n10_ n11_ n12_
              clear hb hbox hg
              refine hK.out _ _ ⟨(blk_cell BK164.out 0).trans rfl, (blk_cell BK164.out 1).trans rfl⟩ (fun hHeld => ?_)
              clear hK K
              refine norm_ (a' := ?_) ?_ ?_
              rotate_left
              ·
               show Act.put _ (some 8) _ = _
               simp only [Act.put, List.setIfInBounds_toArray, List.set_cons_zero, List.set_cons_succ, i64_w, i32_w]
               rfl
              refine one_ (i := 4) (N := some 50) #[true, true, true, true, true, false, false, false, true, false, false] rfl rfl (one_of HT_.out (by kernel_rfl)) (by decide) (fun K hK => ?_)
              refine goes_ Tryd.func55 (by kernel_rfl) rfl #[.agg #[.int .i64 x165000_2, .int .i64 x165001_2], .int .u8 (bt a1 x7_2)] (by rfl) rfl rfl (by (try simp only [List.map_toArray, List.map_cons, List.map_nil]); first | done | rfl | (simp only [List.length_drop, List.length_take]; rfl)) ?_
              with_reducible refine (spec_l2Move.calls k2 x165000_2 x165001_2 (bt a1 x7_2) t166 t167 true _ A42.out).mono ?_
              rintro e w46 ⟨rfl, hb⟩
              refine ⟨_, rfl, ?_⟩
              have n0_ := Aside0.mk (blk_below (g := gb160) (o := .cells #[.int .i64 a0_0, .int .i64 a0_1] 25 (0, 0)) (kbq4 BK160.out) hb)
              have n1_ := Aside0.mk (blk_below (g := gb161) (o := .cells #[.int .i64 x162000_2, .int .i64 x162001_2] 25 (0, 0)) (kbq4 BK161.out) hb)
              have n2_ := Aside0.mk (blk_below (g := gb164) (o := .cells #[.int .i64 x165000_2, .int .i64 x165001_2] 25 (0, 0)) (kbq4 BK164.out) hb)
              have n3_ := Aside0.mk (blk_below (g := gb169) (o := .cells #[.int .i64 0, .int .i64 0] 25 (0, 0)) (kbq4 BK169.out) hb)
              have n4_ := Aside0.mk (below_step (lb4q4 HB.out GE160.out GE161.out GE164.out GE169.out) hb)
              clear BK160; clear BK161; clear BK164; clear BK169; clear HB
              have BK160 := n0_
              have BK161 := n1_
              have BK164 := n2_
              have BK169 := n3_
              have HB := n4_
              clear n0_ n1_ n2_ n3_ n4_
              (try clear hb)
              (try clear hb2)
              (try clear hk)
              (try clear hi)
              refine hK.out _ _ ⟨(blk_cell BK164.out 0).trans rfl, (blk_cell BK164.out 1).trans rfl⟩ (fun hHeld => ?_)
              clear hK K
              refine norm_ (a' := ?_) ?_ ?_
              rotate_left
              ·
               show Act.put _ (some 50) _ = _
               simp only [Act.put, List.setIfInBounds_toArray, List.set_cons_zero, List.set_cons_succ, i64_w, i32_w]
               rfl
              refine pure_ (i := 5) (N := some 45) (v := ?_) (a' := ?_) #[true, true, true, true, true, true, false, false, true, false, false] rfl rfl (any_of HT_.out (by kernel_rfl)) (fun _ _ _ h => h) (Or.inl ⟨by rfl, ?_⟩) ?_ ?_
              rotate_left
              ·
               intro w'
               go_simp
               with_reducible rfl
              rotate_left
              ·
               simp only [Act.put, List.setIfInBounds_toArray, List.set_cons_zero, List.set_cons_succ, i64_w, i32_w]
               rfl
              refine pure_ (i := 6) (N := some 51) (v := ?_) (a' := ?_) #[true, true, true, true, true, true, true, false, true, false, false] rfl rfl (any_of HT_.out (by kernel_rfl)) (fun _ _ _ h => h) (Or.inl ⟨by rfl, ?_⟩) ?_ ?_
              rotate_left
              ·
               intro w'
               go_simp
               with_reducible rfl
              rotate_left
              ·
               simp only [Act.put, List.setIfInBounds_toArray, List.set_cons_zero, List.set_cons_succ, i64_w, i32_w]
               rfl
              refine pure_ (i := 7) (N := some 52) (v := ?_) (a' := ?_) #[true, true, true, true, true, true, true, true, true, false, false] rfl rfl (any_of HT_.out (by kernel_rfl)) (fun _ _ _ h => h) (Or.inl ⟨by rfl, ?_⟩) ?_ ?_
              rotate_left
              ·
               intro w'
               go_simp
               with_reducible rfl
              rotate_left
              ·
               simp only [Act.put, List.setIfInBounds_toArray, List.set_cons_zero, List.set_cons_succ, i64_w, i32_w]
               rfl
              exact norm_ (by simp only [putAll, Act.put, List.setIfInBounds_toArray, List.set_cons_zero, List.set_cons_succ]) (hCont (gb169) _ ⟨hHeld, (kbq4 BK160.out), (kbq4 BK161.out), (kbq4 BK164.out), (kbq4 BK169.out), GW169.out, GE169.out, NB160_169.out, NB169_160.out, NB161_169.out, NB169_161.out, NB164_169.out, NB169_164.out, (lb4q4 HB.out GE160.out GE161.out GE164.out GE169.out)⟩)
            rintro gb169 w47 ⟨hS_, h0_, h1_, h2_, h3_, h4_, h5_, h6_, h7_, h8_, h9_, h10_, h11_, h12_⟩
            have n0_ : Aside0 (w47.heap[gb160]? = some (.cells #[.int .i64 a0_0, .int .i64 a0_1] 25 (0, 0))) := ⟨h0_⟩
            have n1_ : Aside0 (w47.heap[gb161]? = some (.cells #[.int .i64 x162000_2, .int .i64 x162001_2] 25 (0, 0))) := ⟨h1_⟩
            have n2_ : Aside0 (w47.heap[gb164]? = some (.cells #[.int .i64 x165000_2, .int .i64 x165001_2] 25 (0, 0))) := ⟨h2_⟩
            have n3_ : Aside0 (w47.heap[gb169]? = some (.cells #[.int .i64 0, .int .i64 0] 25 (0, 0))) := ⟨h3_⟩
            have n4_ : Aside0 (w.heap.size ≤ gb169) := ⟨h4_⟩
            have n5_ : Aside0 (w.heap.size ≤ gb169) := ⟨h5_⟩
            have n6_ : Aside0 (gb160 ≠ gb169) := ⟨h6_⟩
            have n7_ : Aside0 (gb169 ≠ gb160) := ⟨h7_⟩
            have n8_ : Aside0 (gb161 ≠ gb169) := ⟨h8_⟩
            have n9_ : Aside0 (gb169 ≠ gb161) := ⟨h9_⟩
            have n10_ : Aside0 (gb164 ≠ gb169) := ⟨h10_⟩
            have n11_ : Aside0 (gb169 ≠ gb164) := ⟨h11_⟩
            have n12_ : Aside0 (Below w.heap.size w w47) := ⟨h12_⟩
            clear BK160; clear BK161; clear BK164; clear HB
            clear h0_ h1_ h2_ h3_ h4_ h5_ h6_ h7_ h8_ h9_ h10_ h11_ h12_
            have BK160 := n0_
            have BK161 := n1_
            have BK164 := n2_
            have BK169 := n3_
            have GW169 := n4_
            have GE169 := n5_
            have NB160_169 := n6_
            have NB169_160 := n7_
            have NB161_169 := n8_
            have NB169_161 := n9_
            have NB164_169 := n10_
            have NB169_164 := n11_
            have HB := n12_
            clear n0_ n1_ n2_ n3_ n4_ n5_ n6_ n7_ n8_ n9_ n10_ n11_ n12_
            have hHeld : w47.cell? ⟨gb164, 0, none⟩ = some (.int .i64 x165000_2) ∧ w47.cell? ⟨gb164, 1, none⟩ = some (.int .i64 x165001_2) := hS_
            refine norm_ (a' := ?_) ?_ ?_
            rotate_left
            ·
             simp only [putAll, Act.put, List.setIfInBounds_toArray, List.set_cons_zero, List.set_cons_succ]
             rfl
            refine one_ (i := 9) (N := none) #[true, true, true, true, true, true, true, true, true, true, false] rfl rfl (one_of HT_.out (by kernel_rfl)) (by decide) (fun K hK => ?_)
            have hs48 : w47.cell? ⟨gb169, 0, none⟩ = some (.int .i64 0) := (blk_cell BK169.out 0).trans rfl
            have hfs48 := blk_frozen BK169.out 0
            have hns48_0 := NB160_169.out
            have hns48_1 := NB161_169.out
            have hns48_2 := NB164_169.out
            have hms48_0 := NB169_160.out
            have hms48_1 := NB169_161.out
            have hms48_2 := NB169_164.out
            have hs49 : w47.cell? ⟨gb169, 1, none⟩ = some (.int .i64 0) := (blk_cell BK169.out 1).trans rfl
            have hfs49 := blk_frozen BK169.out 1
            have hns49_0 := NB160_169.out
            have hns49_1 := NB161_169.out
            have hns49_2 := NB164_169.out
            have hms49_0 := NB169_160.out
            have hms49_1 := NB169_161.out
            have hms49_2 := NB169_164.out
            refine skip_ (w1 := ?_) (by rfl) rfl ?_ ?_
            rotate_left
            ·
             go_simp
             rfl
            refine hK.out _ _ ⟨((cell_far (p := ⟨gb169, _, none⟩) NB164_169.out _).trans (((cell_far (p := ⟨gb169, _, none⟩) NB164_169.out _).trans (hHeld.1)))), ((cell_far (p := ⟨gb169, _, none⟩) NB164_169.out _).trans (((cell_far (p := ⟨gb169, _, none⟩) NB164_169.out _).trans (hHeld.2))))⟩ (fun hHeld => ?_)
            clear hK K
            refine pure_ (i := 10) (N := some 9) (v := ?_) (a' := ?_) #[true, true, true, true, true, true, true, true, true, true, true] rfl rfl (any_of HT_.out (by kernel_rfl)) (fun _ _ _ h => h) (Or.inl ⟨by rfl, ?_⟩) ?_ ?_
            rotate_left
            ·
             intro w'
             go_simp
             with_reducible rfl
            rotate_left
            ·
             simp only [Act.put, List.setIfInBounds_toArray, List.set_cons_zero, List.set_cons_succ, i64_w, i32_w]
             rfl
            refine done_ (done_of HT_.out (by kernel_rfl)) ?_
            have hnb50 := NB169_160.out
            have hnc50 := NB160_169.out
            have hnb51 := NB169_161.out
            have hnc51 := NB161_169.out
            have hnb52 := NB169_164.out
            have hnc52 := NB164_169.out
            have hcz53_0 : w47.cell? ⟨gb169, 0, none⟩ = some (.int .i64 0) := (blk_cell BK169.out 0).trans rfl
            have hcz53_1 : w47.cell? ⟨gb169, 1, none⟩ = some (.int .i64 0) := (blk_cell BK169.out 1).trans rfl
            have hfz53_0 := blk_frozen BK169.out 0
            have hfz53_1 := blk_frozen BK169.out 1
            have hnb54 := NB164_160.out
            have hnc54 := NB160_164.out
            have hnb55 := NB164_161.out
            have hnc55 := NB161_164.out
            have hcz56_0 : w47.cell? ⟨gb164, 0, none⟩ = some (.int .i64 x165000_2) := (blk_cell BK164.out 0).trans rfl
            have hcz56_1 : w47.cell? ⟨gb164, 1, none⟩ = some (.int .i64 x165001_2) := (blk_cell BK164.out 1).trans rfl
            have hfz56_0 := blk_frozen BK164.out 0
            have hfz56_1 := blk_frozen BK164.out 1
            try go_wp2
            go_roundg k2
            case measure => have := HJ2.out; have := HK2.out; omega
            case rel => exact ⟨(wrap64 (x7_2 + 1)), (x162000_2), (x162001_2), (t166), (t167), (by first | rfl | (simp; done) | (simp [*]; done)), H', ⟨by have := HJ2.out; have := HK2.out; omega⟩, ⟨kf2q4 BK160.out NB160_164.out NB160_169.out⟩, ⟨kf2q4 BK161.out NB161_164.out NB161_169.out⟩, ⟨by (with_reducible repeat (first | refine blk_drewN ?_ _ | refine blk_drew ?_ | refine blk_alloc ?_ _)); refine blk_put (cs := #[.int .i64 t166, .int .i64 x165001_2]) ?_ 1 _ rfl; (with_reducible repeat (first | refine blk_drewN ?_ _ | refine blk_drew ?_ | refine blk_alloc ?_ _)); refine blk_put (cs := #[.int .i64 x165000_2, .int .i64 x165001_2]) ?_ 0 _ rfl; (with_reducible repeat (first | refine blk_drewN ?_ _ | refine blk_drew ?_ | refine blk_alloc ?_ _)); refine blk_far ?_ NB164_169.out _; (with_reducible repeat (first | refine blk_drewN ?_ _ | refine blk_drew ?_ | refine blk_alloc ?_ _)); refine blk_far ?_ NB164_169.out _; (with_reducible repeat (first | refine blk_drewN ?_ _ | refine blk_drew ?_ | refine blk_alloc ?_ _)); exact BK164.out⟩, ⟨lb4q4 HB.out GE160.out GE161.out GE164.out GE169.out⟩⟩
           ·
            replace c43 := Bool.eq_false_iff.mpr c43
            subst c43
            have H1 : (some (0, 0, false)) = some (r1, r2, r3) := by rw [if_neg (show ¬ (false = true) by decide)] at H; exact H
            clear H
            have H := H1
            clear H1
            simp only [Option.some.injEq, Prod.mk.injEq] at H
            obtain ⟨rfl, rfl, rfl⟩ := H
            try go_wp2_with (first | ((with_reducible refine gate_callee (f := 26) rfl ?_); refine goesL_ (some 42) rfl rfl Tryd.func26 (by kernel_rfl) rfl #[.string (a1.extract (x7_2 : Int).toNat ((wrap64 (x7_2 + 1)) : Int).toNat)] rfl (by (try simp only [List.map_toArray, List.map_cons, List.map_nil]); first | done | rfl | (simp only [List.length_drop, List.length_take]; rfl)) ?_; (with_reducible refine (spec_DanceOk.calls k2 (a1.extract (x7_2 : Int).toNat ((wrap64 (x7_2 + 1)) : Int).toNat) true _ A39.out).mono ?_); rintro e w' ⟨rfl, ⟨nd, rfl⟩⟩; refine ⟨_, rfl, ?_⟩; (try (rw [drewN_self wr]; generalize hq_ : World.drewN wr _ = wr; have n0_ : Aside0 (wr.heap[gb160]? = some (.cells #[.int .i64 a0_0, .int .i64 a0_1] 25 (0, 0))) := ⟨by rw [← hq_]; exact (kbq4 BK160.out)⟩; have n1_ : Aside0 (wr.heap[gb161]? = some (.cells #[.int .i64 x162000_2, .int .i64 x162001_2] 25 (0, 0))) := ⟨by rw [← hq_]; exact (kbq4 BK161.out)⟩; have n2_ : Aside0 (wr.heap[gb164]? = some (.cells #[.int .i64 x165000_2, .int .i64 x165001_2] 25 (0, 0))) := ⟨by rw [← hq_]; exact (kbq4 BK164.out)⟩; have n3_ : Aside0 (Below w.heap.size w wr) := ⟨by rw [← hq_]; exact (lb3q4 HB.out GE160.out GE161.out GE164.out)⟩; clear BK160 BK161 BK164 HB hq_; have BK160 := n0_; have BK161 := n1_; have BK164 := n2_; have HB := n3_; clear n0_ n1_ n2_ n3_))))
            have n0_ := Aside0.mk (blk_drew BK160.out)
            have n1_ := Aside0.mk (blk_drew BK161.out)
            have n2_ := Aside0.mk (blk_drew BK164.out)
            have n3_ := Aside0.mk (below_drew1 HB.out)
            clear BK160; clear BK161; clear BK164; clear HB
            have BK160 := n0_
            have BK161 := n1_
            have BK164 := n2_
            have HB := n3_
            clear n0_ n1_ n2_ n3_
            have p41 : 0 ≤ (x7_2 : Int) := of_decide_eq_true (by first | (with_reducible assumption) | assumption)
            have q41 : x7_2 < (a1.size : Int) := of_decide_eq_true (by first | (with_reducible assumption) | assumption)
            have hx41 := bt_at a1 x7_2
            replace p41 := eq_true p41
            replace q41 := eq_true q41
            refine start_ (n := 11) (S := fun w' => w'.cell? ⟨gb164, 0, none⟩ = some (.int .i64 x165000_2) ∧ w'.cell? ⟨gb164, 1, none⟩ = some (.int .i64 x165001_2)) (ds := []) #[false, false, false, false, false, false, false, false, false, false, false] (by kernel_rfl) rfl rfl ⟨(blk_cell BK164.out 0).trans rfl, (blk_cell BK164.out 1).trans rfl⟩ (fun hHeld => ?_); refine with_tabW spec_LongFrom.tab9 spec_LongFrom.bits9 (fun HT_ HW_ => ?_)
            generalize wr.drew = w57 at BK160 BK161 BK164 HB hHeld ⊢
            refine pure_ (i := 1) (N := some 47) (v := ?_) (a' := ?_) #[false, true, false, false, false, false, false, false, false, false, false] rfl rfl (any_of HT_.out (by kernel_rfl)) (fun _ _ _ h => h) (Or.inl ⟨by rfl, ?_⟩) ?_ ?_
            rotate_left
            ·
             intro w'
             go_simp
             with_reducible rfl
            rotate_left
            ·
             simp only [Act.put, List.setIfInBounds_toArray, List.set_cons_zero, List.set_cons_succ, i64_w, i32_w]
             rfl
            refine pure_ (i := 2) (N := some 48) (v := ?_) (a' := ?_) #[false, true, true, false, false, false, false, false, false, false, false] rfl rfl (any_of HT_.out (by kernel_rfl)) (fun _ _ _ h => h) (Or.inl ⟨by rfl, ?_⟩) ?_ ?_
            rotate_left
            ·
             intro w'
             go_simp
             with_reducible rfl
            rotate_left
            ·
             simp only [Act.put, List.setIfInBounds_toArray, List.set_cons_zero, List.set_cons_succ, i64_w, i32_w]
             rfl
            refine take_ (i := 0) (N := some 46) (v := ?_) (a' := ?_) #[true, true, true, false, false, false, false, false, false, false, false] rfl rfl (take_ofW HT_.out HW_.out (by kernel_rfl)) (fun _ _ _ h => h) (Or.inl ⟨by rfl, ?_⟩) hHeld ?_ ?_
            rotate_left
            ·
             rintro w' ⟨s0, s1⟩
             go_simp
             with_reducible rfl
            rotate_left
            ·
             simp only [Act.put, List.setIfInBounds_toArray, List.set_cons_zero, List.set_cons_succ, i64_w, i32_w]
             rfl
            refine take_ (i := 3) (N := some 49) (v := ?_) (a' := ?_) #[true, true, true, true, false, false, false, false, false, false, false] rfl rfl (take_ofW HT_.out HW_.out (by kernel_rfl)) (fun _ _ _ h => h) (Or.inl ⟨by rfl, ?_⟩) hHeld ?_ ?_
            rotate_left
            ·
             rintro w' ⟨s0, s1⟩
             go_simp
             with_reducible rfl
            rotate_left
            ·
             simp only [Act.put, List.setIfInBounds_toArray, List.set_cons_zero, List.set_cons_succ, i64_w, i32_w]
             rfl
            refine join_ (σ := Nat) 2 #[true, true, true, true, true, true, true, true, true, false, false] (fun s_ => [(50, .tuple #[.agg #[.int .i64 t166, .int .i64 t167], .bool false]), (8, .pointer (some ⟨s_, 0, none⟩)), (45, .tuple #[.agg #[.int .i64 t166, .int .i64 t167], .bool false]), (51, .agg #[.int .i64 t166, .int .i64 t167]), (52, .bool false)]) (fun s_ w' => (w'.cell? ⟨gb164, 0, none⟩ = some (.int .i64 x165000_2) ∧ w'.cell? ⟨gb164, 1, none⟩ = some (.int .i64 x165001_2)) ∧ (w'.heap[gb160]? = some (.cells #[.int .i64 a0_0, .int .i64 a0_1] 25 (0, 0))) ∧ (w'.heap[gb161]? = some (.cells #[.int .i64 x162000_2, .int .i64 x162001_2] 25 (0, 0))) ∧ (w'.heap[gb164]? = some (.cells #[.int .i64 x165000_2, .int .i64 x165001_2] 25 (0, 0))) ∧ (w'.heap[s_]? = some (.cells #[.int .i64 0, .int .i64 0] 25 (0, 0))) ∧ (w.heap.size ≤ s_) ∧ (w.heap.size ≤ s_) ∧ (gb160 ≠ s_) ∧ (s_ ≠ gb160) ∧ (gb161 ≠ s_) ∧ (s_ ≠ gb161) ∧ (gb164 ≠ s_) ∧ (s_ ≠ gb164) ∧ (Below w.heap.size w w')) ?_ ?_
            rotate_left
            ·
             intro hCont
             refine two_ (i := 4) (j := 8) (Ni := some 50) (Nj := some 8) #[true, true, true, true, true, false, false, false, false, false, false] #[true, true, true, true, false, false, false, false, true, false, false] rfl rfl rfl rfl (two_of HT_.out (by kernel_rfl)) (by decide) (by decide) (fun K hK => ?_) (fun K hK => ?_)
             ·
              skip
              refine goes_ Tryd.func55 (by kernel_rfl) rfl #[.agg #[.int .i64 x165000_2, .int .i64 x165001_2], .int .u8 (bt a1 x7_2)] (by rfl) rfl rfl (by (try simp only [List.map_toArray, List.map_cons, List.map_nil]); first | done | rfl | (simp only [List.length_drop, List.length_take]; rfl)) ?_
              with_reducible refine (spec_l2Move.calls k2 x165000_2 x165001_2 (bt a1 x7_2) t166 t167 false _ A42.out).mono ?_
              rintro e w58 ⟨rfl, hb⟩
              refine ⟨_, rfl, ?_⟩
              have n0_ := Aside0.mk (blk_below (g := gb160) (o := .cells #[.int .i64 a0_0, .int .i64 a0_1] 25 (0, 0)) (kbq4 BK160.out) hb)
              have n1_ := Aside0.mk (blk_below (g := gb161) (o := .cells #[.int .i64 x162000_2, .int .i64 x162001_2] 25 (0, 0)) (kbq4 BK161.out) hb)
              have n2_ := Aside0.mk (blk_below (g := gb164) (o := .cells #[.int .i64 x165000_2, .int .i64 x165001_2] 25 (0, 0)) (kbq4 BK164.out) hb)
              have n3_ := Aside0.mk (below_step (lb3q4 HB.out GE160.out GE161.out GE164.out) hb)
              clear BK160; clear BK161; clear BK164; clear HB
              have BK160 := n0_
              have BK161 := n1_
              have BK164 := n2_
              have HB := n3_
              clear n0_ n1_ n2_ n3_
              (try clear hb)
              (try clear hb2)
              (try clear hk)
              (try clear hi)
              refine hK.out _ _ ⟨(blk_cell BK164.out 0).trans rfl, (blk_cell BK164.out 1).trans rfl⟩ (fun hHeld => ?_)
              clear hK K
              refine norm_ (a' := ?_) ?_ ?_
              rotate_left
              ·
               show Act.put _ (some 50) _ = _
               simp only [Act.put, List.setIfInBounds_toArray, List.set_cons_zero, List.set_cons_succ, i64_w, i32_w]
               rfl
              refine pure_ (i := 5) (N := some 45) (v := ?_) (a' := ?_) #[true, true, true, true, true, true, false, false, false, false, false] rfl rfl (any_of HT_.out (by kernel_rfl)) (fun _ _ _ h => h) (Or.inl ⟨by rfl, ?_⟩) ?_ ?_
              rotate_left
              ·
               intro w'
               go_simp
               with_reducible rfl
              rotate_left
              ·
               simp only [Act.put, List.setIfInBounds_toArray, List.set_cons_zero, List.set_cons_succ, i64_w, i32_w]
               rfl
              refine pure_ (i := 6) (N := some 51) (v := ?_) (a' := ?_) #[true, true, true, true, true, true, true, false, false, false, false] rfl rfl (any_of HT_.out (by kernel_rfl)) (fun _ _ _ h => h) (Or.inl ⟨by rfl, ?_⟩) ?_ ?_
              rotate_left
              ·
               intro w'
               go_simp
               with_reducible rfl
              rotate_left
              ·
               simp only [Act.put, List.setIfInBounds_toArray, List.set_cons_zero, List.set_cons_succ, i64_w, i32_w]
               rfl
              refine pure_ (i := 7) (N := some 52) (v := ?_) (a' := ?_) #[true, true, true, true, true, true, true, true, false, false, false] rfl rfl (any_of HT_.out (by kernel_rfl)) (fun _ _ _ h => h) (Or.inl ⟨by rfl, ?_⟩) ?_ ?_
              rotate_left
              ·
               intro w'
               go_simp
               with_reducible rfl
              rotate_left
              ·
               simp only [Act.put, List.setIfInBounds_toArray, List.set_cons_zero, List.set_cons_succ, i64_w, i32_w]
               rfl
              refine one_ (i := 8) (N := some 8) #[true, true, true, true, true, true, true, true, true, false, false] rfl rfl (one_of HT_.out (by kernel_rfl)) (by decide) (fun K hK => ?_)
              refine box_step ?hg (N := 8) ?hd (cs := #[.int .i64 0, .int .i64 0]) (t := 25) ?hr ?_; (case hd => rfl); (case hg => rfl); (case hr => first | (go_simp; done) | (go_simp; rfl))
              intro gb169 hg w59 hbox hb
              have n0_ := Aside0.mk (blk_below (g := gb160) (o := .cells #[.int .i64 a0_0, .int .i64 a0_1] 25 (0, 0)) (kbq4 BK160.out) hb)
              have n1_ := Aside0.mk (blk_below (g := gb161) (o := .cells #[.int .i64 x162000_2, .int .i64 x162001_2] 25 (0, 0)) (kbq4 BK161.out) hb)
              have n2_ := Aside0.mk (blk_below (g := gb164) (o := .cells #[.int .i64 x165000_2, .int .i64 x165001_2] 25 (0, 0)) (kbq4 BK164.out) hb)
              have n3_ := Aside0.mk (below_step (lb3q4 HB.out GE160.out GE161.out GE164.out) hb)
              have n4_ := Aside0.mk (hbox)
              have n5_ := Aside0.mk ((by rw [hg]; exact (below_size (lb3q4 HB.out GE160.out GE161.out GE164.out)) : w.heap.size ≤ gb169))
              have n6_ := Aside0.mk ((by rw [hg]; exact (below_size (lb3q4 HB.out GE160.out GE161.out GE164.out)) : w.heap.size ≤ gb169))
              have n7_ := Aside0.mk ((by rw [hg]; exact Nat.ne_of_lt (blk_lt (g := gb160) (o := .cells #[.int .i64 a0_0, .int .i64 a0_1] 25 (0, 0)) (kbq4 BK160.out)) : gb160 ≠ gb169))
              have n8_ := Aside0.mk ((by rw [hg]; exact Nat.ne_of_gt (blk_lt (g := gb160) (o := .cells #[.int .i64 a0_0, .int .i64 a0_1] 25 (0, 0)) (kbq4 BK160.out)) : gb169 ≠ gb160))
              have n9_ := Aside0.mk ((by rw [hg]; exact Nat.ne_of_lt (blk_lt (g := gb161) (o := .cells #[.int .i64 x162000_2, .int .i64 x162001_2] 25 (0, 0)) (kbq4 BK161.out)) : gb161 ≠ gb169))
              have n10_ := Aside0.mk ((by rw [hg]; exact Nat.ne_of_gt (blk_lt (g := gb161) (o := .cells #[.int .i64 x162000_2, .int .i64 x162001_2] 25 (0, 0)) (kbq4 BK161.out)) : gb169 ≠ gb161))
              have n11_ := Aside0.mk ((by rw [hg]; exact Nat.ne_of_lt (blk_lt (g := gb164) (o := .cells #[.int .i64 x165000_2, .int .i64 x165001_2] 25 (0, 0)) (kbq4 BK164.out)) : gb164 ≠ gb169))
              have n12_ := Aside0.mk ((by rw [hg]; exact Nat.ne_of_gt (blk_lt (g := gb164) (o := .cells #[.int .i64 x165000_2, .int .i64 x165001_2] 25 (0, 0)) (kbq4 BK164.out)) : gb169 ≠ gb164))
              clear BK160; clear BK161; clear BK164; clear HB
              have BK160 := n0_
              have BK161 := n1_
              have BK164 := n2_
              have HB := n3_
              have BK169 := n4_
              have GW169 := n5_
              have GE169 := n6_
              have NB160_169 := n7_
              have NB169_160 := n8_
              have NB161_169 := n9_
              have NB169_161 := n10_
              have NB164_169 := n11_
              have NB169_164 := n12_
              clear n0_ n1_ n2_ n3_ n4_ n5_ n6_ n7_ n8_ n9_ n10_ n11_ n12_
              clear hb hbox hg
              refine hK.out _ _ ⟨(blk_cell BK164.out 0).trans rfl, (blk_cell BK164.out 1).trans rfl⟩ (fun hHeld => ?_)
              clear hK K
              refine norm_ (a' := ?_) ?_ ?_
              rotate_left
              ·
               show Act.put _ (some 8) _ = _
               simp only [Act.put, List.setIfInBounds_toArray, List.set_cons_zero, List.set_cons_succ, i64_w, i32_w]
               rfl
              exact norm_ (by simp only [putAll, Act.put, List.setIfInBounds_toArray, List.set_cons_zero, List.set_cons_succ]) (hCont (gb169) _ ⟨hHeld, (kbq4 BK160.out), (kbq4 BK161.out), (kbq4 BK164.out), (kbq4 BK169.out), GW169.out, GE169.out, NB160_169.out, NB169_160.out, NB161_169.out, NB169_161.out, NB164_169.out, NB169_164.out, (lb4q4 HB.out GE160.out GE161.out GE164.out GE169.out)⟩)
             ·
              skip
              refine box_step ?hg (N := 8) ?hd (cs := #[.int .i64 0, .int .i64 0]) (t := 25) ?hr ?_; (case hd => rfl); (case hg => rfl); (case hr => first | (go_simp; done) | (go_simp; rfl))
              intro gb169 hg w58 hbox hb
              have n0_ := Aside0.mk (blk_below (g := gb160) (o := .cells #[.int .i64 a0_0, .int .i64 a0_1] 25 (0, 0)) (kbq4 BK160.out) hb)
              have n1_ := Aside0.mk (blk_below (g := gb161) (o := .cells #[.int .i64 x162000_2, .int .i64 x162001_2] 25 (0, 0)) (kbq4 BK161.out) hb)
              have n2_ := Aside0.mk (blk_below (g := gb164) (o := .cells #[.int .i64 x165000_2, .int .i64 x165001_2] 25 (0, 0)) (kbq4 BK164.out) hb)
              have n3_ := Aside0.mk (below_step (lb3q4 HB.out GE160.out GE161.out GE164.out) hb)
              have n4_ := Aside0.mk (hbox)
              have n5_ := Aside0.mk ((by rw [hg]; exact (below_size (lb3q4 HB.out GE160.out GE161.out GE164.out)) : w.heap.size ≤ gb169))
              have n6_ := Aside0.mk ((by rw [hg]; exact (below_size (lb3q4 HB.out GE160.out GE161.out GE164.out)) : w.heap.size ≤ gb169))
              have n7_ := Aside0.mk ((by rw [hg]; exact Nat.ne_of_lt (blk_lt (g := gb160) (o := .cells #[.int .i64 a0_0, .int .i64 a0_1] 25 (0, 0)) (kbq4 BK160.out)) : gb160 ≠ gb169))
              have n8_ := Aside0.mk ((by rw [hg]; exact Nat.ne_of_gt (blk_lt (g := gb160) (o := .cells #[.int .i64 a0_0, .int .i64 a0_1] 25 (0, 0)) (kbq4 BK160.out)) : gb169 ≠ gb160))
              have n9_ := Aside0.mk ((by rw [hg]; exact Nat.ne_of_lt (blk_lt (g := gb161) (o := .cells #[.int .i64 x162000_2, .int .i64 x162001_2] 25 (0, 0)) (kbq4 BK161.out)) : gb161 ≠ gb169))
              have n10_ := Aside0.mk ((by rw [hg]; exact Nat.ne_of_gt (blk_lt (g := gb161) (o := .cells #[.int .i64 x162000_2, .int .i64 x162001_2] 25 (0, 0)) (kbq4 BK161.out)) : gb169 ≠ gb161))
              have n11_ := Aside0.mk ((by rw [hg]; exact Nat.ne_of_lt (blk_lt (g := gb164) (o := .cells #[.int .i64 x165000_2, .int .i64 x165001_2] 25 (0, 0)) (kbq4 BK164.out)) : gb164 ≠ gb169))
              have n12_ := Aside0.mk ((by rw [hg]; exact Nat.ne_of_gt (blk_lt (g := gb164) (o := .cells #[.int .i64 x165000_2, .int .i64 x165001_2] 25 (0, 0)) (kbq4 BK164.out)) : gb169 ≠ gb164))
              clear BK160; clear BK161; clear BK164; clear HB
              have BK160 := n0_
              have BK161 := n1_
              have BK164 := n2_
              have HB := n3_
              have BK169 := n4_
              have GW169 := n5_
              have GE169 := n6_
              have NB160_169 := n7_
              have NB169_160 := n8_
              have NB161_169 := n9_
              have NB169_161 := n10_
              have NB164_169 := n11_
              have NB169_164 := n12_
              clear n0_ n1_ n2_ n3_ n4_ n5_ n6_ n7_ n8_ n9_ n10_ n11_ n12_
              clear hb hbox hg
              refine hK.out _ _ ⟨(blk_cell BK164.out 0).trans rfl, (blk_cell BK164.out 1).trans rfl⟩ (fun hHeld => ?_)
              clear hK K
              refine norm_ (a' := ?_) ?_ ?_
              rotate_left
              ·
               show Act.put _ (some 8) _ = _
               simp only [Act.put, List.setIfInBounds_toArray, List.set_cons_zero, List.set_cons_succ, i64_w, i32_w]
               rfl
              refine one_ (i := 4) (N := some 50) #[true, true, true, true, true, false, false, false, true, false, false] rfl rfl (one_of HT_.out (by kernel_rfl)) (by decide) (fun K hK => ?_)
              refine goes_ Tryd.func55 (by kernel_rfl) rfl #[.agg #[.int .i64 x165000_2, .int .i64 x165001_2], .int .u8 (bt a1 x7_2)] (by rfl) rfl rfl (by (try simp only [List.map_toArray, List.map_cons, List.map_nil]); first | done | rfl | (simp only [List.length_drop, List.length_take]; rfl)) ?_
              with_reducible refine (spec_l2Move.calls k2 x165000_2 x165001_2 (bt a1 x7_2) t166 t167 false _ A42.out).mono ?_
              rintro e w59 ⟨rfl, hb⟩
              refine ⟨_, rfl, ?_⟩
              have n0_ := Aside0.mk (blk_below (g := gb160) (o := .cells #[.int .i64 a0_0, .int .i64 a0_1] 25 (0, 0)) (kbq4 BK160.out) hb)
              have n1_ := Aside0.mk (blk_below (g := gb161) (o := .cells #[.int .i64 x162000_2, .int .i64 x162001_2] 25 (0, 0)) (kbq4 BK161.out) hb)
              have n2_ := Aside0.mk (blk_below (g := gb164) (o := .cells #[.int .i64 x165000_2, .int .i64 x165001_2] 25 (0, 0)) (kbq4 BK164.out) hb)
              have n3_ := Aside0.mk (blk_below (g := gb169) (o := .cells #[.int .i64 0, .int .i64 0] 25 (0, 0)) (kbq4 BK169.out) hb)
              have n4_ := Aside0.mk (below_step (lb4q4 HB.out GE160.out GE161.out GE164.out GE169.out) hb)
              clear BK160; clear BK161; clear BK164; clear BK169; clear HB
              have BK160 := n0_
              have BK161 := n1_
              have BK164 := n2_
              have BK169 := n3_
              have HB := n4_
              clear n0_ n1_ n2_ n3_ n4_
              (try clear hb)
              (try clear hb2)
              (try clear hk)
              (try clear hi)
              refine hK.out _ _ ⟨(blk_cell BK164.out 0).trans rfl, (blk_cell BK164.out 1).trans rfl⟩ (fun hHeld => ?_)
              clear hK K
              refine norm_ (a' := ?_) ?_ ?_
              rotate_left
              ·
               show Act.put _ (some 50) _ = _
               simp only [Act.put, List.setIfInBounds_toArray, List.set_cons_zero, List.set_cons_succ, i64_w, i32_w]
               rfl
              refine pure_ (i := 5) (N := some 45) (v := ?_) (a' := ?_) #[true, true, true, true, true, true, false, false, true, false, false] rfl rfl (any_of HT_.out (by kernel_rfl)) (fun _ _ _ h => h) (Or.inl ⟨by rfl, ?_⟩) ?_ ?_
              rotate_left
              ·
               intro w'
               go_simp
               with_reducible rfl
              rotate_left
              ·
               simp only [Act.put, List.setIfInBounds_toArray, List.set_cons_zero, List.set_cons_succ, i64_w, i32_w]
               rfl
              refine pure_ (i := 6) (N := some 51) (v := ?_) (a' := ?_) #[true, true, true, true, true, true, true, false, true, false, false] rfl rfl (any_of HT_.out (by kernel_rfl)) (fun _ _ _ h => h) (Or.inl ⟨by rfl, ?_⟩) ?_ ?_
              rotate_left
              ·
               intro w'
               go_simp
               with_reducible rfl
              rotate_left
              ·
               simp only [Act.put, List.setIfInBounds_toArray, List.set_cons_zero, List.set_cons_succ, i64_w, i32_w]
               rfl
              refine pure_ (i := 7) (N := some 52) (v := ?_) (a' := ?_) #[true, true, true, true, true, true, true, true, true, false, false] rfl rfl (any_of HT_.out (by kernel_rfl)) (fun _ _ _ h => h) (Or.inl ⟨by rfl, ?_⟩) ?_ ?_
              rotate_left
              ·
               intro w'
               go_simp
               with_reducible rfl
              rotate_left
              ·
               simp only [Act.put, List.setIfInBounds_toArray, List.set_cons_zero, List.set_cons_succ, i64_w, i32_w]
               rfl
              exact norm_ (by simp only [putAll, Act.put, List.setIfInBounds_toArray, List.set_cons_zero, List.set_cons_succ]) (hCont (gb169) _ ⟨hHeld, (kbq4 BK160.out), (kbq4 BK161.out), (kbq4 BK164.out), (kbq4 BK169.out), GW169.out, GE169.out, NB160_169.out, NB169_160.out, NB161_169.out, NB169_161.out, NB164_169.out, NB169_164.out, (lb4q4 HB.out GE160.out GE161.out GE164.out GE169.out)⟩)
            rintro gb169 w60 ⟨hS_, h0_, h1_, h2_, h3_, h4_, h5_, h6_, h7_, h8_, h9_, h10_, h11_, h12_⟩
            have n0_ : Aside0 (w60.heap[gb160]? = some (.cells #[.int .i64 a0_0, .int .i64 a0_1] 25 (0, 0))) := ⟨h0_⟩
            have n1_ : Aside0 (w60.heap[gb161]? = some (.cells #[.int .i64 x162000_2, .int .i64 x162001_2] 25 (0, 0))) := ⟨h1_⟩
            have n2_ : Aside0 (w60.heap[gb164]? = some (.cells #[.int .i64 x165000_2, .int .i64 x165001_2] 25 (0, 0))) := ⟨h2_⟩
            have n3_ : Aside0 (w60.heap[gb169]? = some (.cells #[.int .i64 0, .int .i64 0] 25 (0, 0))) := ⟨h3_⟩
            have n4_ : Aside0 (w.heap.size ≤ gb169) := ⟨h4_⟩
            have n5_ : Aside0 (w.heap.size ≤ gb169) := ⟨h5_⟩
            have n6_ : Aside0 (gb160 ≠ gb169) := ⟨h6_⟩
            have n7_ : Aside0 (gb169 ≠ gb160) := ⟨h7_⟩
            have n8_ : Aside0 (gb161 ≠ gb169) := ⟨h8_⟩
            have n9_ : Aside0 (gb169 ≠ gb161) := ⟨h9_⟩
            have n10_ : Aside0 (gb164 ≠ gb169) := ⟨h10_⟩
            have n11_ : Aside0 (gb169 ≠ gb164) := ⟨h11_⟩
            have n12_ : Aside0 (Below w.heap.size w w60) := ⟨h12_⟩
            clear BK160; clear BK161; clear BK164; clear HB
            clear h0_ h1_ h2_ h3_ h4_ h5_ h6_ h7_ h8_ h9_ h10_ h11_ h12_
            have BK160 := n0_
            have BK161 := n1_
            have BK164 := n2_
            have BK169 := n3_
            have GW169 := n4_
            have GE169 := n5_
            have NB160_169 := n6_
            have NB169_160 := n7_
            have NB161_169 := n8_
            have NB169_161 := n9_
            have NB164_169 := n10_
            have NB169_164 := n11_
            have HB := n12_
            clear n0_ n1_ n2_ n3_ n4_ n5_ n6_ n7_ n8_ n9_ n10_ n11_ n12_
            have hHeld : w60.cell? ⟨gb164, 0, none⟩ = some (.int .i64 x165000_2) ∧ w60.cell? ⟨gb164, 1, none⟩ = some (.int .i64 x165001_2) := hS_
            refine norm_ (a' := ?_) ?_ ?_
            rotate_left
            ·
             simp only [putAll, Act.put, List.setIfInBounds_toArray, List.set_cons_zero, List.set_cons_succ]
             rfl
            refine one_ (i := 9) (N := none) #[true, true, true, true, true, true, true, true, true, true, false] rfl rfl (one_of HT_.out (by kernel_rfl)) (by decide) (fun K hK => ?_)
            have hs61 : w60.cell? ⟨gb169, 0, none⟩ = some (.int .i64 0) := (blk_cell BK169.out 0).trans rfl
            have hfs61 := blk_frozen BK169.out 0
            have hns61_0 := NB160_169.out
            have hns61_1 := NB161_169.out
            have hns61_2 := NB164_169.out
            have hms61_0 := NB169_160.out
            have hms61_1 := NB169_161.out
            have hms61_2 := NB169_164.out
            have hs62 : w60.cell? ⟨gb169, 1, none⟩ = some (.int .i64 0) := (blk_cell BK169.out 1).trans rfl
            have hfs62 := blk_frozen BK169.out 1
            have hns62_0 := NB160_169.out
            have hns62_1 := NB161_169.out
            have hns62_2 := NB164_169.out
            have hms62_0 := NB169_160.out
            have hms62_1 := NB169_161.out
            have hms62_2 := NB169_164.out
            refine skip_ (w1 := ?_) (by rfl) rfl ?_ ?_
            rotate_left
            ·
             go_simp
             rfl
            refine hK.out _ _ ⟨((cell_far (p := ⟨gb169, _, none⟩) NB164_169.out _).trans (((cell_far (p := ⟨gb169, _, none⟩) NB164_169.out _).trans (hHeld.1)))), ((cell_far (p := ⟨gb169, _, none⟩) NB164_169.out _).trans (((cell_far (p := ⟨gb169, _, none⟩) NB164_169.out _).trans (hHeld.2))))⟩ (fun hHeld => ?_)
            clear hK K
            refine pure_ (i := 10) (N := some 9) (v := ?_) (a' := ?_) #[true, true, true, true, true, true, true, true, true, true, true] rfl rfl (any_of HT_.out (by kernel_rfl)) (fun _ _ _ h => h) (Or.inl ⟨by rfl, ?_⟩) ?_ ?_
            rotate_left
            ·
             intro w'
             go_simp
             with_reducible rfl
            rotate_left
            ·
             simp only [Act.put, List.setIfInBounds_toArray, List.set_cons_zero, List.set_cons_succ, i64_w, i32_w]
             rfl
            refine done_ (done_of HT_.out (by kernel_rfl)) ?_
            have hnb63 := NB161_160.out
            have hnc63 := NB160_161.out
            have hnb64 := NB161_164.out
            have hnc64 := NB164_161.out
            have hnb65 := NB161_169.out
            have hnc65 := NB169_161.out
            have hcz66_0 : w60.cell? ⟨gb161, 0, none⟩ = some (.int .i64 x162000_2) := (blk_cell BK161.out 0).trans rfl
            have hcz66_1 : w60.cell? ⟨gb161, 1, none⟩ = some (.int .i64 x162001_2) := (blk_cell BK161.out 1).trans rfl
            have hfz66_0 := blk_frozen BK161.out 0
            have hfz66_1 := blk_frozen BK161.out 1
            try go_wp2
            refine bodyPost_ret (results_ct rfl _ _ gb161 25 #[.int .i64 0, .int .i64 0] (0, 0) _ rfl (by (with_reducible repeat (first | refine blk_drewN ?_ _ | refine blk_drew ?_ | refine blk_alloc ?_ _)); refine blk_put (cs := #[.int .i64 0, .int .i64 x162001_2]) ?_ 1 _ rfl; (with_reducible repeat (first | refine blk_drewN ?_ _ | refine blk_drew ?_ | refine blk_alloc ?_ _)); refine blk_put (cs := #[.int .i64 x162000_2, .int .i64 x162001_2]) ?_ 0 _ rfl; (with_reducible repeat (first | refine blk_drewN ?_ _ | refine blk_drew ?_ | refine blk_alloc ?_ _)); refine blk_far ?_ NB161_169.out _; (with_reducible repeat (first | refine blk_drewN ?_ _ | refine blk_drew ?_ | refine blk_alloc ?_ _)); refine blk_far ?_ NB161_169.out _; (with_reducible repeat (first | refine blk_drewN ?_ _ | refine blk_drew ?_ | refine blk_alloc ?_ _)); exact BK161.out) Tryd.underlying25 rfl (by kernel_rfl)) rfl ?_
            exact ⟨by first | rfl | (simp [errW_none, errW_some] <;> rfl) | (simp [*, errW_none, errW_some] <;> rfl), by repeat (first | (with_reducible first | exact HB.out | apply below_alloc | apply pw_below_drewN | apply below_drew1 | refine below_set ?_ GE160.out | refine below_set ?_ GE161.out | refine below_set ?_ GE164.out | refine below_set ?_ GE169.out) | exact HB.out)⟩
          ·
           replace c40 := Bool.eq_false_iff.mpr c40
           subst c40
           have H1 : (some (0, 0, false)) = some (r1, r2, r3) := by rw [if_neg (show ¬ (false = true) by decide)] at H; exact H
           clear H
           have H := H1
           clear H1
           simp only [Option.some.injEq, Prod.mk.injEq] at H
           obtain ⟨rfl, rfl, rfl⟩ := H
           go_wp2_with (first | ((with_reducible refine gate_callee (f := 26) rfl ?_); refine goesL_ (some 42) rfl rfl Tryd.func26 (by kernel_rfl) rfl #[.string (a1.extract (x7_2 : Int).toNat ((wrap64 (x7_2 + 1)) : Int).toNat)] rfl (by (try simp only [List.map_toArray, List.map_cons, List.map_nil]); first | done | rfl | (simp only [List.length_drop, List.length_take]; rfl)) ?_; (with_reducible refine (spec_DanceOk.calls k2 (a1.extract (x7_2 : Int).toNat ((wrap64 (x7_2 + 1)) : Int).toNat) false _ A39.out).mono ?_); rintro e w' ⟨rfl, ⟨nd, rfl⟩⟩; refine ⟨_, rfl, ?_⟩; (try (rw [drewN_self wr]; generalize hq_ : World.drewN wr _ = wr; have n0_ : Aside0 (wr.heap[gb160]? = some (.cells #[.int .i64 a0_0, .int .i64 a0_1] 25 (0, 0))) := ⟨by rw [← hq_]; exact (kbq4 BK160.out)⟩; have n1_ : Aside0 (wr.heap[gb161]? = some (.cells #[.int .i64 x162000_2, .int .i64 x162001_2] 25 (0, 0))) := ⟨by rw [← hq_]; exact (kbq4 BK161.out)⟩; have n2_ : Aside0 (wr.heap[gb164]? = some (.cells #[.int .i64 x165000_2, .int .i64 x165001_2] 25 (0, 0))) := ⟨by rw [← hq_]; exact (kbq4 BK164.out)⟩; have n3_ : Aside0 (Below w.heap.size w wr) := ⟨by rw [← hq_]; exact (lb3q4 HB.out GE160.out GE161.out GE164.out)⟩; clear BK160 BK161 BK164 HB hq_; have BK160 := n0_; have BK161 := n1_; have BK164 := n2_; have HB := n3_; clear n0_ n1_ n2_ n3_)); have hnb67 := NB161_160.out; have hnc67 := NB160_161.out; have hnb68 := NB161_164.out; have hnc68 := NB164_161.out; have hcz69_0 : wr.cell? ⟨gb161, 0, none⟩ = some (.int .i64 x162000_2) := (blk_cell BK161.out 0).trans rfl; have hcz69_1 : wr.cell? ⟨gb161, 1, none⟩ = some (.int .i64 x162001_2) := (blk_cell BK161.out 1).trans rfl; have hfz69_0 := blk_frozen BK161.out 0; have hfz69_1 := blk_frozen BK161.out 1))
           refine bodyPost_ret (results_ct rfl _ _ gb161 25 #[.int .i64 0, .int .i64 0] (0, 0) _ rfl (by (with_reducible repeat (first | refine blk_drewN ?_ _ | refine blk_drew ?_ | refine blk_alloc ?_ _)); refine blk_put (cs := #[.int .i64 0, .int .i64 x162001_2]) ?_ 1 _ rfl; (with_reducible repeat (first | refine blk_drewN ?_ _ | refine blk_drew ?_ | refine blk_alloc ?_ _)); refine blk_put (cs := #[.int .i64 x162000_2, .int .i64 x162001_2]) ?_ 0 _ rfl; (with_reducible repeat (first | refine blk_drewN ?_ _ | refine blk_drew ?_ | refine blk_alloc ?_ _)); exact BK161.out) Tryd.underlying25 rfl (by kernel_rfl)) rfl ?_
           exact ⟨by first | rfl | (simp [errW_none, errW_some] <;> rfl) | (simp [*, errW_none, errW_some] <;> rfl), by repeat (first | (with_reducible first | exact HB.out | apply below_alloc | apply pw_below_drewN | apply below_drew1 | refine below_set ?_ GE160.out | refine below_set ?_ GE161.out | refine below_set ?_ GE164.out) | exact HB.out)⟩
         ·
          rw [if_neg c38] at H
          exact absurd H (by simp)
        ·
         rw [if_neg c37] at H
         exact absurd H (by simp)
       ·
        rw [if_neg c36] at H
        exact absurd H (by simp)
      ·
       rw [if_neg c35] at H
       have c35b0 : decide (x7_2 < (a1.size : Int)) = false := decide_eq_false c35
       clear c35
       simp only [Option.some.injEq, Prod.mk.injEq] at H
       obtain ⟨rfl, rfl, rfl⟩ := H
       have hnb70 := NB164_160.out
       have hnc70 := NB160_164.out
       have hnb71 := NB164_161.out
       have hnc71 := NB161_164.out
       have hcz72_0 : wr.cell? ⟨gb164, 0, none⟩ = some (.int .i64 x165000_2) := (blk_cell BK164.out 0).trans rfl
       have hcz72_1 : wr.cell? ⟨gb164, 1, none⟩ = some (.int .i64 x165001_2) := (blk_cell BK164.out 1).trans rfl
       have hfz72_0 := blk_frozen BK164.out 0
       have hfz72_1 := blk_frozen BK164.out 1
       have hnb73 := NB161_160.out
       have hnc73 := NB160_161.out
       have hcz74_0 : wr.cell? ⟨gb161, 0, none⟩ = some (.int .i64 x162000_2) := (blk_cell BK161.out 0).trans rfl
       have hcz74_1 : wr.cell? ⟨gb161, 1, none⟩ = some (.int .i64 x162001_2) := (blk_cell BK161.out 1).trans rfl
       have hfz74_0 := blk_frozen BK161.out 0
       have hfz74_1 := blk_frozen BK161.out 1
       go_wp2
       refine bodyPost_ret (results_ct rfl _ _ gb161 25 #[.int .i64 x165000_2, .int .i64 x165001_2] (0, 0) _ rfl (by (with_reducible repeat (first | refine blk_drewN ?_ _ | refine blk_drew ?_ | refine blk_alloc ?_ _)); refine blk_put (cs := #[.int .i64 x165000_2, .int .i64 x162001_2]) ?_ 1 _ rfl; (with_reducible repeat (first | refine blk_drewN ?_ _ | refine blk_drew ?_ | refine blk_alloc ?_ _)); refine blk_put (cs := #[.int .i64 x162000_2, .int .i64 x162001_2]) ?_ 0 _ rfl; (with_reducible repeat (first | refine blk_drewN ?_ _ | refine blk_drew ?_ | refine blk_alloc ?_ _)); exact BK161.out) Tryd.underlying25 rfl (by kernel_rfl)) rfl ?_
       exact ⟨by first | rfl | (simp [errW_none, errW_some] <;> rfl) | (simp [*, errW_none, errW_some] <;> rfl), by repeat (first | (with_reducible first | exact HB.out | apply below_alloc | apply pw_below_drewN | apply below_drew1 | refine below_set ?_ GE160.out | refine below_set ?_ GE161.out | refine below_set ?_ GE164.out) | exact HB.out)⟩

end Go.Proofs.YtcahmfhlmclgkaaDoor.PFnLongFrom
