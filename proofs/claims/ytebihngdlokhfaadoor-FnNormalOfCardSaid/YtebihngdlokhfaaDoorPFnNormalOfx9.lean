/- Walks of functions that the law reaches (lines that the kit's print wrote, over contracts of this session's own). -/
import Derived.Test.YtebihngdlokhfaaDoorPFnNormalOfx0
import Derived.Test.YtebihngdlokhfaaDoorPFnNormalOfx2
import Derived.Test.YtebihngdlokhfaaDoorPFnNormalOfx3
import Derived.Test.YtebihngdlokhfaaDoorPFnNormalOfx7
import Derived.Test.YtebihngdlokhfaaDoorPFnNormalOfx8
namespace Go.Proofs.YtebihngdlokhfaaDoor.PFnNormalOf
open Go.RowKit Go.Proofs.YtebihngdlokhfaaDoorW.PrintWords Go.Proofs.YtebihngdlokhfaaDoorW.PrintLast Go.Proofs.YtebihngdlokhfaaDoorW.PrintMore
attribute [local go_sem] max2_int min2_int max_two min_two max_three min_three max_four min_four   -- for this text's walks alone
set_option linter.unusedVariables false
set_option linter.unusedSimpArgs false
theorem kbq9 {Q P : Prop} (q : Q) (h : Q → P := by intro q_; (with_reducible repeat (first | refine blk_drewN ?_ _ | refine blk_drew ?_ | refine blk_alloc ?_ _)); exact q_) : P := h q
theorem kf1q9 {Q P : Prop} {N0 : Prop} (q : Q) (n0 : N0) (h : Q → N0 → P := by intro q_ m0_; (with_reducible repeat (first | refine blk_drewN ?_ _ | refine blk_drew ?_ | refine blk_alloc ?_ _ | refine blk_far ?_ m0_ _)); exact q_) : P := h q n0
theorem lb0q9 {Q P : Prop} (q : Q)  (h : Q → P := by intro q_ ; repeat (first | (with_reducible first | exact q_ | apply below_alloc | apply pw_below_drewN | apply below_drew1) | exact q_)) : P := h q 
theorem lb1q9 {Q P : Prop} {N0 : Prop} (q : Q) (n0 : N0) (h : Q → N0 → P := by intro q_ m0_; repeat (first | (with_reducible first | exact q_ | apply below_alloc | apply pw_below_drewN | apply below_drew1 | refine below_set ?_ m0_) | exact q_)) : P := h q n0
theorem lb2q9 {Q P : Prop} {N0 N1 : Prop} (q : Q) (n0 : N0) (n1 : N1) (h : Q → N0 → N1 → P := by intro q_ m0_ m1_; repeat (first | (with_reducible first | exact q_ | apply below_alloc | apply pw_below_drewN | apply below_drew1 | refine below_set ?_ m0_ | refine below_set ?_ m1_) | exact q_)) : P := h q n0 n1

/-! ### spec_NormalOf: function 16 -/
mutual
def spec_NormalOf.j0 : Nat → Bool → Int → Int → Int → Int → Option (ByteArray × Bool)
  | 0, _, _, _, _, _ => none
  | k + 1, x33, x300000, x300001, x300002, x300003 => if x33 = true then (some ((⟨#[]⟩ : ByteArray), false)) else (if x300002 = 0 then ((spec_l4Twists.f k x300001).bind fun t304 => (some (t304, true))) else ((spec_l4Dance.f k x300000 x300002).bind fun t305 => (if 1 + t305.size ≤ 9223372036854775807 then (spec_NormalOf.l0 k ((⟨#[82]⟩ : ByteArray) ++ t305) 0 x300000 x300001 x300002 x300003 1 0 0 1) else (none))))
def spec_NormalOf.l0 : Nat → ByteArray → Int → Int → Int → Int → Int → Int → Int → Int → Int → Option (ByteArray × Bool)
  | 0, _, _, _, _, _, _, _, _, _, _ => none
  | k + 1, x4, x6, x300000, x300001, x300002, x300003, x307000, x307001, x307002, x307003 => if x6 < (x4.size : Int) then (if 0 ≤ x6 then ((spec_l5Move.f (bt x4 x6)).bind fun bt307 => ((spec_BehindOf.f k x307000 x307001 x307002 x307003 bt307.1 bt307.2.1 bt307.2.2.1 bt307.2.2.2).bind fun bt311 => (spec_NormalOf.l0 k x4 (wrap64 (x6 + 1)) x300000 x300001 x300002 x300003 bt311.1 bt311.2.1 bt311.2.2.1 bt311.2.2.2.1))) else (none)) else (if x307002 = 0 then (none) else ((spec_l4Twists.f k (wrap64 (Int.tdiv (wrap64 (x300003 - x307003)) x307002))).bind fun t316 => (if t316.size + x4.size ≤ 9223372036854775807 then (if ((t316 ++ x4).size : Int) > 200 then (some ((⟨#[]⟩ : ByteArray), false)) else (some (t316 ++ x4, true))) else (none))))
end
def spec_NormalOf.f (k : Nat) (a0_0 : Int) (a0_1 : Int) (a0_2 : Int) (a0_3 : Int) : Option (ByteArray × Bool) := (spec_MapOk.f a0_0 a0_1 a0_2 a0_3).bind fun t300 => (if t300 = true then ((spec_l1In.f a0_0 (-12) 12).bind fun t301 => (if t301 = true then ((spec_l1In.f a0_1 (-12) 12).bind fun t302 => (if t302 = true then (if a0_2 > 12 then (spec_NormalOf.j0 k true a0_0 a0_1 a0_2 a0_3) else ((spec_l1In.f a0_3 (-12) 12).bind fun t303 => (spec_NormalOf.j0 k (!t303) a0_0 a0_1 a0_2 a0_3))) else (spec_NormalOf.j0 k true a0_0 a0_1 a0_2 a0_3))) else (spec_NormalOf.j0 k true a0_0 a0_1 a0_2 a0_3))) else (spec_NormalOf.j0 k true a0_0 a0_1 a0_2 a0_3))
theorem spec_NormalOf.mono_l : ∀ k, (∀ y0 y1 y2 y3 y4, LeO (spec_NormalOf.j0 k y0 y1 y2 y3 y4) (spec_NormalOf.j0 (k + 1) y0 y1 y2 y3 y4)) ∧ (∀ y0 y1 y2 y3 y4 y5 y6 y7 y8 y9, LeO (spec_NormalOf.l0 k y0 y1 y2 y3 y4 y5 y6 y7 y8 y9) (spec_NormalOf.l0 (k + 1) y0 y1 y2 y3 y4 y5 y6 y7 y8 y9))
  | 0 => ⟨fun _ _ _ _ _ r h => by simp [spec_NormalOf.j0] at h, fun _ _ _ _ _ _ _ _ _ _ r h => by simp [spec_NormalOf.l0] at h⟩
  | k + 1 => by
    obtain ⟨ih0, ih1⟩ := spec_NormalOf.mono_l k
    refine ⟨?_, ?_⟩
    · intro y0 y1 y2 y3 y4
      unfold spec_NormalOf.j0
      repeat' first
      | (with_reducible exact ih0 _ _ _ _ _)
      | (with_reducible exact ih1 _ _ _ _ _ _ _ _ _ _)
      | (with_reducible exact spec_BehindOf.mono _ _ _ _ _ _ _ _ _)
      | (with_reducible exact spec_l4Dance.mono _ _ _)
      | (with_reducible exact spec_l4Twists.mono _ _)
      | (with_reducible exact LeO.refl _)
      | (with_reducible exact LeO.none _)
      | (with_reducible refine LeO.ite ?_ ?_)
      | (with_reducible refine LeO.bind ?_ (fun _ => ?_))
      | exact ih0 _ _ _ _ _
      | exact ih1 _ _ _ _ _ _ _ _ _ _
      | exact spec_BehindOf.mono _ _ _ _ _ _ _ _ _
      | exact spec_l4Dance.mono _ _ _
      | exact spec_l4Twists.mono _ _
      | exact LeO.none _
      | refine LeO.ite ?_ ?_
      | refine LeO.bind ?_ (fun _ => ?_)
    · intro y0 y1 y2 y3 y4 y5 y6 y7 y8 y9
      unfold spec_NormalOf.l0
      repeat' first
      | (with_reducible exact ih0 _ _ _ _ _)
      | (with_reducible exact ih1 _ _ _ _ _ _ _ _ _ _)
      | (with_reducible exact spec_BehindOf.mono _ _ _ _ _ _ _ _ _)
      | (with_reducible exact spec_l4Dance.mono _ _ _)
      | (with_reducible exact spec_l4Twists.mono _ _)
      | (with_reducible exact LeO.refl _)
      | (with_reducible exact LeO.none _)
      | (with_reducible refine LeO.ite ?_ ?_)
      | (with_reducible refine LeO.bind ?_ (fun _ => ?_))
      | exact ih0 _ _ _ _ _
      | exact ih1 _ _ _ _ _ _ _ _ _ _
      | exact spec_BehindOf.mono _ _ _ _ _ _ _ _ _
      | exact spec_l4Dance.mono _ _ _
      | exact spec_l4Twists.mono _ _
      | exact LeO.none _
      | refine LeO.ite ?_ ?_
      | refine LeO.bind ?_ (fun _ => ?_)
theorem spec_NormalOf.mono : ∀ a0 a1 a2 a3 k, LeO (spec_NormalOf.f k a0 a1 a2 a3) (spec_NormalOf.f (k + 1) a0 a1 a2 a3) := by
  intro a0 a1 a2 a3 k
  obtain ⟨ih0, ih1⟩ := spec_NormalOf.mono_l k
  unfold spec_NormalOf.f
  repeat' first
      | (with_reducible exact ih0 _ _ _ _ _)
      | (with_reducible exact ih1 _ _ _ _ _ _ _ _ _ _)
      | (with_reducible exact spec_BehindOf.mono _ _ _ _ _ _ _ _ _)
      | (with_reducible exact spec_l4Dance.mono _ _ _)
      | (with_reducible exact spec_l4Twists.mono _ _)
      | (with_reducible exact LeO.refl _)
      | (with_reducible exact LeO.none _)
      | (with_reducible refine LeO.ite ?_ ?_)
      | (with_reducible refine LeO.bind ?_ (fun _ => ?_))
      | exact ih0 _ _ _ _ _
      | exact ih1 _ _ _ _ _ _ _ _ _ _
      | exact spec_BehindOf.mono _ _ _ _ _ _ _ _ _
      | exact spec_l4Dance.mono _ _ _
      | exact spec_l4Twists.mono _ _
      | exact LeO.none _
      | refine LeO.ite ?_ ?_
      | refine LeO.bind ?_ (fun _ => ?_)
def spec_NormalOf.T10 : Bool × List (List Nat × List Nat) := (true, [([], []), ([], []), ([], []), ([1, 2], [1, 2]), ([3], [3]), ([0, 4, 4], [0, 4]), ([5], [5]), ([6], [6]), ([6], [6]), ([7, 5, 0, 1, 2, 3, 4, 5, 6, 7], [7])])
def spec_NormalOf.B10 : List Nat := [0, 0, 0, 6, 14, 31, 63, 127, 127, 255]
theorem spec_NormalOf.tab10 : rtab .any (opsOf Tryd.f16 10) = spec_NormalOf.T10 := by kernel_rfl
theorem spec_NormalOf.bits10 : waitsOk spec_NormalOf.T10.2 spec_NormalOf.B10 = true := by kernel_rfl
set_option maxHeartbeats 8000000 in
set_option maxRecDepth 100000 in
theorem spec_NormalOf.calls (k : Nat) (a0_0 : Int) (a0_1 : Int) (a0_2 : Int) (a0_3 : Int) (r1 : ByteArray) (r2 : Bool) (w : World) (h : spec_NormalOf.f k a0_0 a0_1 a0_2 a0_3 = some (r1, r2)) :
  Calls Tryd.prog 16 #[.agg #[.int .i64 a0_0, .int .i64 a0_1, .int .i64 a0_2, .int .i64 a0_3]] w fun e w' => e = .returned (.tuple #[.string r1, .bool r2]) ∧ Below w.heap.size w w' := by
 have hu34 := Tryd.underlying34
 have hu24 := Tryd.underlying24
 have HB := Aside0.mk (Below.refl w.heap.size w)
 have H : ((spec_MapOk.f a0_0 a0_1 a0_2 a0_3).bind fun t300 => (if t300 = true then ((spec_l1In.f a0_0 (-12) 12).bind fun t301 => (if t301 = true then ((spec_l1In.f a0_1 (-12) 12).bind fun t302 => (if t302 = true then (if a0_2 > 12 then (spec_NormalOf.j0 k true a0_0 a0_1 a0_2 a0_3) else ((spec_l1In.f a0_3 (-12) 12).bind fun t303 => (spec_NormalOf.j0 k (!t303) a0_0 a0_1 a0_2 a0_3))) else (spec_NormalOf.j0 k true a0_0 a0_1 a0_2 a0_3))) else (spec_NormalOf.j0 k true a0_0 a0_1 a0_2 a0_3))) else (spec_NormalOf.j0 k true a0_0 a0_1 a0_2 a0_3))) = some (r1, r2) := h
 clear h
 have HC2 := Aside0.mk H
 clear H
 go_enter Tryd.func16, Tryd.ntmps16
 go_upto_region 1 with (first | ((with_reducible refine gate_dst (N := 1) rfl ?_); refine box_event ?hg (N := 1) ?hd (cs := #[.int .i64 a0_0, .int .i64 a0_1, .int .i64 a0_2, .int .i64 a0_3]) (t := 34) ?hr ?_; (case hd => rfl); (case hg => rfl); (case hr => first | (go_simp; done) | (go_simp; rfl)); intro gb299 hg w3 hbox hb; have n0_ := Aside0.mk (below_step (lb0q9 HB.out) hb); have n1_ := Aside0.mk (hbox); have n2_ := Aside0.mk ((by rw [hg]; exact (below_size (lb0q9 HB.out)) : w.heap.size ≤ gb299)); have n3_ := Aside0.mk ((by rw [hg]; exact (below_size (lb0q9 HB.out)) : w.heap.size ≤ gb299)); clear HB; have HB := n0_; have BK299 := n1_; have GW299 := n2_; have GE299 := n3_; clear n0_ n1_ n2_ n3_; clear hb hbox hg))
 (try simp only [Act.put, List.setIfInBounds_toArray, List.set_cons_zero, List.set_cons_succ])
 go_cut [33] (fun v33 wc => ∃ (kq : Nat) (x33_1 : Bool), v33 = .bool x33_1 ∧ Aside0 (spec_NormalOf.j0 kq x33_1 a0_0 a0_1 a0_2 a0_3 = some (r1, r2)) ∧ Aside0 (kq ≤ k) ∧ Aside0 (wc.heap[gb299]? = some (.cells #[.int .i64 a0_0, .int .i64 a0_1, .int .i64 a0_2, .int .i64 a0_3] 34 (0, 0))) ∧ Aside0 (Below w.heap.size w wc))
 case first =>
  have H := HC2.out
  clear HC2
  replace H := Option.bind_eq_some_iff.mp H
  obtain ⟨t300, A40, H⟩ := H
  replace H : (if t300 = true then ((spec_l1In.f a0_0 (-12) 12).bind fun t301 => (if t301 = true then ((spec_l1In.f a0_1 (-12) 12).bind fun t302 => (if t302 = true then (if a0_2 > 12 then (spec_NormalOf.j0 k true a0_0 a0_1 a0_2 a0_3) else ((spec_l1In.f a0_3 (-12) 12).bind fun t303 => (spec_NormalOf.j0 k (!t303) a0_0 a0_1 a0_2 a0_3))) else (spec_NormalOf.j0 k true a0_0 a0_1 a0_2 a0_3))) else (spec_NormalOf.j0 k true a0_0 a0_1 a0_2 a0_3))) else (spec_NormalOf.j0 k true a0_0 a0_1 a0_2 a0_3)) = some (r1, r2) := H
  have A4 := Aside0.mk A40
  clear A40
  by_cases c5 : t300 = true
  ·
   subst c5
   have H1 : ((spec_l1In.f a0_0 (-12) 12).bind fun t301 => (if t301 = true then ((spec_l1In.f a0_1 (-12) 12).bind fun t302 => (if t302 = true then (if a0_2 > 12 then (spec_NormalOf.j0 k true a0_0 a0_1 a0_2 a0_3) else ((spec_l1In.f a0_3 (-12) 12).bind fun t303 => (spec_NormalOf.j0 k (!t303) a0_0 a0_1 a0_2 a0_3))) else (spec_NormalOf.j0 k true a0_0 a0_1 a0_2 a0_3))) else (spec_NormalOf.j0 k true a0_0 a0_1 a0_2 a0_3))) = some (r1, r2) := by rw [if_pos rfl] at H; exact H
   clear H
   have H := H1
   clear H1
   replace H := Option.bind_eq_some_iff.mp H
   obtain ⟨t301, A60, H⟩ := H
   replace H : (if t301 = true then ((spec_l1In.f a0_1 (-12) 12).bind fun t302 => (if t302 = true then (if a0_2 > 12 then (spec_NormalOf.j0 k true a0_0 a0_1 a0_2 a0_3) else ((spec_l1In.f a0_3 (-12) 12).bind fun t303 => (spec_NormalOf.j0 k (!t303) a0_0 a0_1 a0_2 a0_3))) else (spec_NormalOf.j0 k true a0_0 a0_1 a0_2 a0_3))) else (spec_NormalOf.j0 k true a0_0 a0_1 a0_2 a0_3)) = some (r1, r2) := H
   have A6 := Aside0.mk A60
   clear A60
   by_cases c7 : t301 = true
   ·
    subst c7
    have H1 : ((spec_l1In.f a0_1 (-12) 12).bind fun t302 => (if t302 = true then (if a0_2 > 12 then (spec_NormalOf.j0 k true a0_0 a0_1 a0_2 a0_3) else ((spec_l1In.f a0_3 (-12) 12).bind fun t303 => (spec_NormalOf.j0 k (!t303) a0_0 a0_1 a0_2 a0_3))) else (spec_NormalOf.j0 k true a0_0 a0_1 a0_2 a0_3))) = some (r1, r2) := by rw [if_pos rfl] at H; exact H
    clear H
    have H := H1
    clear H1
    replace H := Option.bind_eq_some_iff.mp H
    obtain ⟨t302, A80, H⟩ := H
    replace H : (if t302 = true then (if a0_2 > 12 then (spec_NormalOf.j0 k true a0_0 a0_1 a0_2 a0_3) else ((spec_l1In.f a0_3 (-12) 12).bind fun t303 => (spec_NormalOf.j0 k (!t303) a0_0 a0_1 a0_2 a0_3))) else (spec_NormalOf.j0 k true a0_0 a0_1 a0_2 a0_3)) = some (r1, r2) := H
    have A8 := Aside0.mk A80
    clear A80
    by_cases c9 : t302 = true
    ·
     subst c9
     have H1 : (if a0_2 > 12 then (spec_NormalOf.j0 k true a0_0 a0_1 a0_2 a0_3) else ((spec_l1In.f a0_3 (-12) 12).bind fun t303 => (spec_NormalOf.j0 k (!t303) a0_0 a0_1 a0_2 a0_3))) = some (r1, r2) := by rw [if_pos rfl] at H; exact H
     clear H
     have H := H1
     clear H1
     by_cases c10 : a0_2 > 12
     ·
      rw [if_pos c10] at H
      have c10b0 : decide (12 < a0_2) = true := decide_eq_true c10
      clear c10
      (first | rw [c10b0] | (simp only [i64_w, i32_w]; rw [c10b0]) | skip)
      have H' := Aside0.mk H
      clear H
      have hcz11_0 : w3.cell? ⟨gb299, 0, none⟩ = some (.int .i64 a0_0) := (blk_cell BK299.out 0).trans rfl
      have hcz11_1 : w3.cell? ⟨gb299, 1, none⟩ = some (.int .i64 a0_1) := (blk_cell BK299.out 1).trans rfl
      have hcz11_2 : w3.cell? ⟨gb299, 2, none⟩ = some (.int .i64 a0_2) := (blk_cell BK299.out 2).trans rfl
      have hcz11_3 : w3.cell? ⟨gb299, 3, none⟩ = some (.int .i64 a0_3) := (blk_cell BK299.out 3).trans rfl
      have hfz11_0 := blk_frozen BK299.out 0
      have hfz11_1 := blk_frozen BK299.out 1
      have hfz11_2 := blk_frozen BK299.out 2
      have hfz11_3 := blk_frozen BK299.out 3
      go_wp2_with (first | ((with_reducible refine gate_callee (f := 38) rfl ?_); refine goesL_ (some 9) rfl rfl Tryd.func38 (by kernel_rfl) rfl #[.agg #[.int .i64 a0_0, .int .i64 a0_1, .int .i64 a0_2, .int .i64 a0_3]] rfl (by (try simp only [List.map_toArray, List.map_cons, List.map_nil]); first | done | rfl | (simp only [List.length_drop, List.length_take]; rfl)) ?_; (with_reducible refine (spec_MapOk.calls a0_0 a0_1 a0_2 a0_3 true _ A4.out).mono ?_); rintro e w12 ⟨rfl, hb⟩; refine ⟨_, rfl, ?_⟩; have n0_ := Aside0.mk (blk_below (g := gb299) (o := .cells #[.int .i64 a0_0, .int .i64 a0_1, .int .i64 a0_2, .int .i64 a0_3] 34 (0, 0)) (kbq9 BK299.out) hb); have n1_ := Aside0.mk (below_step (lb1q9 HB.out GE299.out) hb); clear BK299; clear HB; have BK299 := n0_; have HB := n1_; clear n0_ n1_; (try clear hb); (try clear hb2); (try clear hk); (try clear hi); have hcz13_0 : w12.cell? ⟨gb299, 0, none⟩ = some (.int .i64 a0_0) := (blk_cell BK299.out 0).trans rfl; have hcz13_1 : w12.cell? ⟨gb299, 1, none⟩ = some (.int .i64 a0_1) := (blk_cell BK299.out 1).trans rfl; have hcz13_2 : w12.cell? ⟨gb299, 2, none⟩ = some (.int .i64 a0_2) := (blk_cell BK299.out 2).trans rfl; have hcz13_3 : w12.cell? ⟨gb299, 3, none⟩ = some (.int .i64 a0_3) := (blk_cell BK299.out 3).trans rfl; have hfz13_0 := blk_frozen BK299.out 0; have hfz13_1 := blk_frozen BK299.out 1; have hfz13_2 := blk_frozen BK299.out 2; have hfz13_3 := blk_frozen BK299.out 3) | (go_at_call 39; (with_reducible refine (spec_l1In.calls a0_0 (-12) 12 true _ A6.out).mono ?_); rintro e w' ⟨rfl, ⟨nd, rfl⟩⟩) | (go_at_call 39; (with_reducible refine (spec_l1In.calls a0_1 (-12) 12 true _ A8.out).mono ?_); rintro e w' ⟨rfl, ⟨nd, rfl⟩⟩))
      go_meet
      case rel => exact ⟨_, (true), (by first | rfl | (simp; done) | (simp [*]; done)), H', ⟨by first | omega | exact Nat.le_refl _⟩, ⟨kbq9 BK299.out⟩, ⟨lb1q9 HB.out GE299.out⟩⟩
     ·
      rw [if_neg c10] at H
      have c10b0 : decide (12 < a0_2) = false := decide_eq_false c10
      clear c10
      (first | rw [c10b0] | (simp only [i64_w, i32_w]; rw [c10b0]) | skip)
      replace H := Option.bind_eq_some_iff.mp H
      obtain ⟨t303, A140, H⟩ := H
      replace H : (spec_NormalOf.j0 k (!t303) a0_0 a0_1 a0_2 a0_3) = some (r1, r2) := H
      have A14 := Aside0.mk A140
      clear A140
      have H' := Aside0.mk H
      clear H
      have hcz15_0 : w3.cell? ⟨gb299, 0, none⟩ = some (.int .i64 a0_0) := (blk_cell BK299.out 0).trans rfl
      have hcz15_1 : w3.cell? ⟨gb299, 1, none⟩ = some (.int .i64 a0_1) := (blk_cell BK299.out 1).trans rfl
      have hcz15_2 : w3.cell? ⟨gb299, 2, none⟩ = some (.int .i64 a0_2) := (blk_cell BK299.out 2).trans rfl
      have hcz15_3 : w3.cell? ⟨gb299, 3, none⟩ = some (.int .i64 a0_3) := (blk_cell BK299.out 3).trans rfl
      have hfz15_0 := blk_frozen BK299.out 0
      have hfz15_1 := blk_frozen BK299.out 1
      have hfz15_2 := blk_frozen BK299.out 2
      have hfz15_3 := blk_frozen BK299.out 3
      go_wp2_with (first | ((with_reducible refine gate_callee (f := 38) rfl ?_); refine goesL_ (some 9) rfl rfl Tryd.func38 (by kernel_rfl) rfl #[.agg #[.int .i64 a0_0, .int .i64 a0_1, .int .i64 a0_2, .int .i64 a0_3]] rfl (by (try simp only [List.map_toArray, List.map_cons, List.map_nil]); first | done | rfl | (simp only [List.length_drop, List.length_take]; rfl)) ?_; (with_reducible refine (spec_MapOk.calls a0_0 a0_1 a0_2 a0_3 true _ A4.out).mono ?_); rintro e w16 ⟨rfl, hb⟩; refine ⟨_, rfl, ?_⟩; have n0_ := Aside0.mk (blk_below (g := gb299) (o := .cells #[.int .i64 a0_0, .int .i64 a0_1, .int .i64 a0_2, .int .i64 a0_3] 34 (0, 0)) (kbq9 BK299.out) hb); have n1_ := Aside0.mk (below_step (lb1q9 HB.out GE299.out) hb); clear BK299; clear HB; have BK299 := n0_; have HB := n1_; clear n0_ n1_; (try clear hb); (try clear hb2); (try clear hk); (try clear hi); have hcz17_0 : w16.cell? ⟨gb299, 0, none⟩ = some (.int .i64 a0_0) := (blk_cell BK299.out 0).trans rfl; have hcz17_1 : w16.cell? ⟨gb299, 1, none⟩ = some (.int .i64 a0_1) := (blk_cell BK299.out 1).trans rfl; have hcz17_2 : w16.cell? ⟨gb299, 2, none⟩ = some (.int .i64 a0_2) := (blk_cell BK299.out 2).trans rfl; have hcz17_3 : w16.cell? ⟨gb299, 3, none⟩ = some (.int .i64 a0_3) := (blk_cell BK299.out 3).trans rfl; have hfz17_0 := blk_frozen BK299.out 0; have hfz17_1 := blk_frozen BK299.out 1; have hfz17_2 := blk_frozen BK299.out 2; have hfz17_3 := blk_frozen BK299.out 3) | (go_at_call 39; (with_reducible refine (spec_l1In.calls a0_0 (-12) 12 true _ A6.out).mono ?_); rintro e w' ⟨rfl, ⟨nd, rfl⟩⟩) | (go_at_call 39; (with_reducible refine (spec_l1In.calls a0_1 (-12) 12 true _ A8.out).mono ?_); rintro e w' ⟨rfl, ⟨nd, rfl⟩⟩) | (go_at_call 39; (with_reducible refine (spec_l1In.calls a0_3 (-12) 12 t303 _ A14.out).mono ?_); rintro e w' ⟨rfl, ⟨nd, rfl⟩⟩))
      go_meet
      case rel => exact ⟨_, (!t303), (by first | rfl | (simp; done) | (simp [*]; done)), H', ⟨by first | omega | exact Nat.le_refl _⟩, ⟨kbq9 BK299.out⟩, ⟨lb1q9 HB.out GE299.out⟩⟩
    ·
     replace c9 := Bool.eq_false_iff.mpr c9
     subst c9
     have H1 : (spec_NormalOf.j0 k true a0_0 a0_1 a0_2 a0_3) = some (r1, r2) := by rw [if_neg (show ¬ (false = true) by decide)] at H; exact H
     clear H
     have H := H1
     clear H1
     have H' := Aside0.mk H
     clear H
     have hcz18_0 : w3.cell? ⟨gb299, 0, none⟩ = some (.int .i64 a0_0) := (blk_cell BK299.out 0).trans rfl
     have hcz18_1 : w3.cell? ⟨gb299, 1, none⟩ = some (.int .i64 a0_1) := (blk_cell BK299.out 1).trans rfl
     have hcz18_2 : w3.cell? ⟨gb299, 2, none⟩ = some (.int .i64 a0_2) := (blk_cell BK299.out 2).trans rfl
     have hcz18_3 : w3.cell? ⟨gb299, 3, none⟩ = some (.int .i64 a0_3) := (blk_cell BK299.out 3).trans rfl
     have hfz18_0 := blk_frozen BK299.out 0
     have hfz18_1 := blk_frozen BK299.out 1
     have hfz18_2 := blk_frozen BK299.out 2
     have hfz18_3 := blk_frozen BK299.out 3
     go_wp2_with (first | ((with_reducible refine gate_callee (f := 38) rfl ?_); refine goesL_ (some 9) rfl rfl Tryd.func38 (by kernel_rfl) rfl #[.agg #[.int .i64 a0_0, .int .i64 a0_1, .int .i64 a0_2, .int .i64 a0_3]] rfl (by (try simp only [List.map_toArray, List.map_cons, List.map_nil]); first | done | rfl | (simp only [List.length_drop, List.length_take]; rfl)) ?_; (with_reducible refine (spec_MapOk.calls a0_0 a0_1 a0_2 a0_3 true _ A4.out).mono ?_); rintro e w19 ⟨rfl, hb⟩; refine ⟨_, rfl, ?_⟩; have n0_ := Aside0.mk (blk_below (g := gb299) (o := .cells #[.int .i64 a0_0, .int .i64 a0_1, .int .i64 a0_2, .int .i64 a0_3] 34 (0, 0)) (kbq9 BK299.out) hb); have n1_ := Aside0.mk (below_step (lb1q9 HB.out GE299.out) hb); clear BK299; clear HB; have BK299 := n0_; have HB := n1_; clear n0_ n1_; (try clear hb); (try clear hb2); (try clear hk); (try clear hi); have hcz20_0 : w19.cell? ⟨gb299, 0, none⟩ = some (.int .i64 a0_0) := (blk_cell BK299.out 0).trans rfl; have hcz20_1 : w19.cell? ⟨gb299, 1, none⟩ = some (.int .i64 a0_1) := (blk_cell BK299.out 1).trans rfl; have hcz20_2 : w19.cell? ⟨gb299, 2, none⟩ = some (.int .i64 a0_2) := (blk_cell BK299.out 2).trans rfl; have hcz20_3 : w19.cell? ⟨gb299, 3, none⟩ = some (.int .i64 a0_3) := (blk_cell BK299.out 3).trans rfl; have hfz20_0 := blk_frozen BK299.out 0; have hfz20_1 := blk_frozen BK299.out 1; have hfz20_2 := blk_frozen BK299.out 2; have hfz20_3 := blk_frozen BK299.out 3) | (go_at_call 39; (with_reducible refine (spec_l1In.calls a0_0 (-12) 12 true _ A6.out).mono ?_); rintro e w' ⟨rfl, ⟨nd, rfl⟩⟩) | (go_at_call 39; (with_reducible refine (spec_l1In.calls a0_1 (-12) 12 false _ A8.out).mono ?_); rintro e w' ⟨rfl, ⟨nd, rfl⟩⟩))
     go_meet
     case rel => exact ⟨_, (true), (by first | rfl | (simp; done) | (simp [*]; done)), H', ⟨by first | omega | exact Nat.le_refl _⟩, ⟨kbq9 BK299.out⟩, ⟨lb1q9 HB.out GE299.out⟩⟩
   ·
    replace c7 := Bool.eq_false_iff.mpr c7
    subst c7
    have H1 : (spec_NormalOf.j0 k true a0_0 a0_1 a0_2 a0_3) = some (r1, r2) := by rw [if_neg (show ¬ (false = true) by decide)] at H; exact H
    clear H
    have H := H1
    clear H1
    have H' := Aside0.mk H
    clear H
    have hcz21_0 : w3.cell? ⟨gb299, 0, none⟩ = some (.int .i64 a0_0) := (blk_cell BK299.out 0).trans rfl
    have hcz21_1 : w3.cell? ⟨gb299, 1, none⟩ = some (.int .i64 a0_1) := (blk_cell BK299.out 1).trans rfl
    have hcz21_2 : w3.cell? ⟨gb299, 2, none⟩ = some (.int .i64 a0_2) := (blk_cell BK299.out 2).trans rfl
    have hcz21_3 : w3.cell? ⟨gb299, 3, none⟩ = some (.int .i64 a0_3) := (blk_cell BK299.out 3).trans rfl
    have hfz21_0 := blk_frozen BK299.out 0
    have hfz21_1 := blk_frozen BK299.out 1
    have hfz21_2 := blk_frozen BK299.out 2
    have hfz21_3 := blk_frozen BK299.out 3
    go_wp2_with (first | ((with_reducible refine gate_callee (f := 38) rfl ?_); refine goesL_ (some 9) rfl rfl Tryd.func38 (by kernel_rfl) rfl #[.agg #[.int .i64 a0_0, .int .i64 a0_1, .int .i64 a0_2, .int .i64 a0_3]] rfl (by (try simp only [List.map_toArray, List.map_cons, List.map_nil]); first | done | rfl | (simp only [List.length_drop, List.length_take]; rfl)) ?_; (with_reducible refine (spec_MapOk.calls a0_0 a0_1 a0_2 a0_3 true _ A4.out).mono ?_); rintro e w22 ⟨rfl, hb⟩; refine ⟨_, rfl, ?_⟩; have n0_ := Aside0.mk (blk_below (g := gb299) (o := .cells #[.int .i64 a0_0, .int .i64 a0_1, .int .i64 a0_2, .int .i64 a0_3] 34 (0, 0)) (kbq9 BK299.out) hb); have n1_ := Aside0.mk (below_step (lb1q9 HB.out GE299.out) hb); clear BK299; clear HB; have BK299 := n0_; have HB := n1_; clear n0_ n1_; (try clear hb); (try clear hb2); (try clear hk); (try clear hi); have hcz23_0 : w22.cell? ⟨gb299, 0, none⟩ = some (.int .i64 a0_0) := (blk_cell BK299.out 0).trans rfl; have hcz23_1 : w22.cell? ⟨gb299, 1, none⟩ = some (.int .i64 a0_1) := (blk_cell BK299.out 1).trans rfl; have hcz23_2 : w22.cell? ⟨gb299, 2, none⟩ = some (.int .i64 a0_2) := (blk_cell BK299.out 2).trans rfl; have hcz23_3 : w22.cell? ⟨gb299, 3, none⟩ = some (.int .i64 a0_3) := (blk_cell BK299.out 3).trans rfl; have hfz23_0 := blk_frozen BK299.out 0; have hfz23_1 := blk_frozen BK299.out 1; have hfz23_2 := blk_frozen BK299.out 2; have hfz23_3 := blk_frozen BK299.out 3) | (go_at_call 39; (with_reducible refine (spec_l1In.calls a0_0 (-12) 12 false _ A6.out).mono ?_); rintro e w' ⟨rfl, ⟨nd, rfl⟩⟩))
    go_meet
    case rel => exact ⟨_, (true), (by first | rfl | (simp; done) | (simp [*]; done)), H', ⟨by first | omega | exact Nat.le_refl _⟩, ⟨kbq9 BK299.out⟩, ⟨lb1q9 HB.out GE299.out⟩⟩
  ·
   replace c5 := Bool.eq_false_iff.mpr c5
   subst c5
   have H1 : (spec_NormalOf.j0 k true a0_0 a0_1 a0_2 a0_3) = some (r1, r2) := by rw [if_neg (show ¬ (false = true) by decide)] at H; exact H
   clear H
   have H := H1
   clear H1
   have H' := Aside0.mk H
   clear H
   have hcz24_0 : w3.cell? ⟨gb299, 0, none⟩ = some (.int .i64 a0_0) := (blk_cell BK299.out 0).trans rfl
   have hcz24_1 : w3.cell? ⟨gb299, 1, none⟩ = some (.int .i64 a0_1) := (blk_cell BK299.out 1).trans rfl
   have hcz24_2 : w3.cell? ⟨gb299, 2, none⟩ = some (.int .i64 a0_2) := (blk_cell BK299.out 2).trans rfl
   have hcz24_3 : w3.cell? ⟨gb299, 3, none⟩ = some (.int .i64 a0_3) := (blk_cell BK299.out 3).trans rfl
   have hfz24_0 := blk_frozen BK299.out 0
   have hfz24_1 := blk_frozen BK299.out 1
   have hfz24_2 := blk_frozen BK299.out 2
   have hfz24_3 := blk_frozen BK299.out 3
   go_wp2_with (first | ((with_reducible refine gate_callee (f := 38) rfl ?_); refine goesL_ (some 9) rfl rfl Tryd.func38 (by kernel_rfl) rfl #[.agg #[.int .i64 a0_0, .int .i64 a0_1, .int .i64 a0_2, .int .i64 a0_3]] rfl (by (try simp only [List.map_toArray, List.map_cons, List.map_nil]); first | done | rfl | (simp only [List.length_drop, List.length_take]; rfl)) ?_; (with_reducible refine (spec_MapOk.calls a0_0 a0_1 a0_2 a0_3 false _ A4.out).mono ?_); rintro e w25 ⟨rfl, hb⟩; refine ⟨_, rfl, ?_⟩; have n0_ := Aside0.mk (blk_below (g := gb299) (o := .cells #[.int .i64 a0_0, .int .i64 a0_1, .int .i64 a0_2, .int .i64 a0_3] 34 (0, 0)) (kbq9 BK299.out) hb); have n1_ := Aside0.mk (below_step (lb1q9 HB.out GE299.out) hb); clear BK299; clear HB; have BK299 := n0_; have HB := n1_; clear n0_ n1_; (try clear hb); (try clear hb2); (try clear hk); (try clear hi)))
   go_meet
   case rel => exact ⟨_, (true), (by first | rfl | (simp; done) | (simp [*]; done)), H', ⟨by first | omega | exact Nat.le_refl _⟩, ⟨kbq9 BK299.out⟩, ⟨lb1q9 HB.out GE299.out⟩⟩
 case rest =>
  clear HC2; (try clear c1); (try clear p2); (try clear c3); (try clear c5); (try clear c7); (try clear c9); (try clear c10); (try clear c10b0); (try clear c16); (try clear hcz11_0); (try clear hcz11_1); (try clear hcz11_2); (try clear hcz11_3); (try clear hcz13_0); (try clear hcz13_1); (try clear hcz13_2); (try clear hcz13_3); (try clear hcz15_0); (try clear hcz15_1); (try clear hcz15_2); (try clear hcz15_3); (try clear hcz17_0); (try clear hcz17_1); (try clear hcz17_2); (try clear hcz17_3); (try clear hcz18_0); (try clear hcz18_1); (try clear hcz18_2); (try clear hcz18_3); (try clear hcz20_0); (try clear hcz20_1); (try clear hcz20_2); (try clear hcz20_3); (try clear hcz21_0); (try clear hcz21_1); (try clear hcz21_2); (try clear hcz21_3); (try clear hcz23_0); (try clear hcz23_1); (try clear hcz23_2); (try clear hcz23_3); (try clear hcz24_0); (try clear hcz24_1); (try clear hcz24_2); (try clear hcz24_3); (try clear hfz11_0); (try clear hfz11_1); (try clear hfz11_2); (try clear hfz11_3); (try clear hfz13_0); (try clear hfz13_1); (try clear hfz13_2); (try clear hfz13_3); (try clear hfz15_0); (try clear hfz15_1); (try clear hfz15_2); (try clear hfz15_3); (try clear hfz17_0); (try clear hfz17_1); (try clear hfz17_2); (try clear hfz17_3); (try clear hfz18_0); (try clear hfz18_1); (try clear hfz18_2); (try clear hfz18_3); (try clear hfz20_0); (try clear hfz20_1); (try clear hfz20_2); (try clear hfz20_3); (try clear hfz21_0); (try clear hfz21_1); (try clear hfz21_2); (try clear hfz21_3); (try clear hfz23_0); (try clear hfz23_1); (try clear hfz23_2); (try clear hfz23_3); (try clear hfz24_0); (try clear hfz24_1); (try clear hfz24_2); (try clear hfz24_3)
  obtain ⟨kq, x33_1, rfl, HA, HJ1, BK299, HB⟩ := hcut
  cases kq with
  | zero => exact absurd HA.out (by simp [spec_NormalOf.j0])
  | succ kj1 =>
   have H := HA.out
   clear HA
   simp only [spec_NormalOf.j0] at H
   by_cases c26 : x33_1 = true
   ·
    subst c26
    have H1 : (some ((⟨#[]⟩ : ByteArray), false)) = some (r1, r2) := by rw [if_pos rfl] at H; exact H
    clear H
    have H := H1
    clear H1
    simp only [Option.some.injEq, Prod.mk.injEq] at H
    obtain ⟨rfl, rfl⟩ := H
    go_wp2
    go_ret2
    exact ⟨by first | rfl | (simp [errW_none, errW_some] <;> rfl) | (simp [*, errW_none, errW_some] <;> rfl), by repeat (first | (with_reducible first | exact HB.out | apply below_alloc | apply pw_below_drewN | apply below_drew1 | refine below_set ?_ GE299.out) | exact HB.out)⟩
   ·
    replace c26 := Bool.eq_false_iff.mpr c26
    subst c26
    have H1 : (if a0_2 = 0 then ((spec_l4Twists.f kj1 a0_1).bind fun t304 => (some (t304, true))) else ((spec_l4Dance.f kj1 a0_0 a0_2).bind fun t305 => (if 1 + t305.size ≤ 9223372036854775807 then (spec_NormalOf.l0 kj1 ((⟨#[82]⟩ : ByteArray) ++ t305) 0 a0_0 a0_1 a0_2 a0_3 1 0 0 1) else (none)))) = some (r1, r2) := by rw [if_neg (show ¬ (false = true) by decide)] at H; exact H
    clear H
    have H := H1
    clear H1
    by_cases c27 : a0_2 = 0
    ·
     rw [if_pos c27] at H
     have c27b0 : (a0_2 == 0) = true := beq_iff_eq.mpr c27
     have c27b1 : (a0_2 != 0) = false := bne_eq_false_iff_eq.mpr c27
     clear c27
     replace H := Option.bind_eq_some_iff.mp H
     obtain ⟨t304, A280, H⟩ := H
     replace H : (some (t304, true)) = some (r1, r2) := H
     have A28 := Aside0.mk A280
     clear A280
     simp only [Option.some.injEq, Prod.mk.injEq] at H
     obtain ⟨rfl, rfl⟩ := H
     have hcz29_0 : wc.cell? ⟨gb299, 0, none⟩ = some (.int .i64 a0_0) := (blk_cell BK299.out 0).trans rfl
     have hcz29_1 : wc.cell? ⟨gb299, 1, none⟩ = some (.int .i64 a0_1) := (blk_cell BK299.out 1).trans rfl
     have hcz29_2 : wc.cell? ⟨gb299, 2, none⟩ = some (.int .i64 a0_2) := (blk_cell BK299.out 2).trans rfl
     have hcz29_3 : wc.cell? ⟨gb299, 3, none⟩ = some (.int .i64 a0_3) := (blk_cell BK299.out 3).trans rfl
     have hfz29_0 := blk_frozen BK299.out 0
     have hfz29_1 := blk_frozen BK299.out 1
     have hfz29_2 := blk_frozen BK299.out 2
     have hfz29_3 := blk_frozen BK299.out 3
     go_wp2_with (first | ((with_reducible refine gate_callee (f := 40) rfl ?_); refine goesL_ (some 39) rfl rfl Tryd.func40 (by kernel_rfl) rfl #[.int .i64 a0_1] rfl (by (try simp only [List.map_toArray, List.map_cons, List.map_nil]); first | done | rfl | (simp only [List.length_drop, List.length_take]; rfl)) ?_; (with_reducible refine (spec_l4Twists.calls kj1 a0_1 t304 _ A28.out).mono ?_); rintro e w' ⟨rfl, ⟨nd, rfl⟩⟩; refine ⟨_, rfl, ?_⟩))
     go_ret2
     exact ⟨by first | rfl | (simp [errW_none, errW_some] <;> rfl) | (simp [*, errW_none, errW_some] <;> rfl), by repeat (first | (with_reducible first | exact HB.out | apply below_alloc | apply pw_below_drewN | apply below_drew1 | refine below_set ?_ GE299.out) | exact HB.out)⟩
    ·
     rw [if_neg c27] at H
     have c27b0 : (a0_2 == 0) = false := beq_eq_false_iff_ne.mpr c27
     have c27b1 : (a0_2 != 0) = true := bne_iff_ne.mpr c27
     replace H := Option.bind_eq_some_iff.mp H
     obtain ⟨t305, A300, H⟩ := H
     replace H : (if 1 + t305.size ≤ 9223372036854775807 then (spec_NormalOf.l0 kj1 ((⟨#[82]⟩ : ByteArray) ++ t305) 0 a0_0 a0_1 a0_2 a0_3 1 0 0 1) else (none)) = some (r1, r2) := H
     have A30 := Aside0.mk A300
     clear A300
     by_cases c31 : 1 + t305.size ≤ 9223372036854775807
     ·
      rw [if_pos c31] at H
      have c31b0 := eq_true c31
      have c31b1 : decide (1 + t305.size ≤ 9223372036854775807) = true := decide_eq_true c31
      try have c31b2 : (9223372036854775807 < 1 + t305.size) = False := eq_false (Nat.not_lt.2 c31)
      have H' := Aside0.mk H
      clear H
      have hcz32_0 : wc.cell? ⟨gb299, 0, none⟩ = some (.int .i64 a0_0) := (blk_cell BK299.out 0).trans rfl
      have hcz32_1 : wc.cell? ⟨gb299, 1, none⟩ = some (.int .i64 a0_1) := (blk_cell BK299.out 1).trans rfl
      have hcz32_2 : wc.cell? ⟨gb299, 2, none⟩ = some (.int .i64 a0_2) := (blk_cell BK299.out 2).trans rfl
      have hcz32_3 : wc.cell? ⟨gb299, 3, none⟩ = some (.int .i64 a0_3) := (blk_cell BK299.out 3).trans rfl
      have hfz32_0 := blk_frozen BK299.out 0
      have hfz32_1 := blk_frozen BK299.out 1
      have hfz32_2 := blk_frozen BK299.out 2
      have hfz32_3 := blk_frozen BK299.out 3
      go_wp2_with (first | ((with_reducible refine gate_callee (f := 41) rfl ?_); refine goesL_ (some 45) rfl rfl Tryd.func41 (by kernel_rfl) rfl #[.agg #[.int .i64 a0_0, .int .i64 a0_2]] rfl (by (try simp only [List.map_toArray, List.map_cons, List.map_nil]); first | done | rfl | (simp only [List.length_drop, List.length_take]; rfl)) ?_; (with_reducible refine (spec_l4Dance.calls kj1 a0_0 a0_2 t305 _ A30.out).mono ?_); rintro e w33 ⟨rfl, hb⟩; refine ⟨_, rfl, ?_⟩; have n0_ := Aside0.mk (blk_below (g := gb299) (o := .cells #[.int .i64 a0_0, .int .i64 a0_1, .int .i64 a0_2, .int .i64 a0_3] 34 (0, 0)) (kbq9 BK299.out) hb); have n1_ := Aside0.mk (below_step (lb1q9 HB.out GE299.out) hb); clear BK299; clear HB; have BK299 := n0_; have HB := n1_; clear n0_ n1_; (try clear hb); (try clear hb2); (try clear hk); (try clear hi)) | ((with_reducible refine gate_dst (N := 5) rfl ?_); refine box_event ?hg (N := 5) ?hd (cs := #[.int .i64 0, .int .i64 0, .int .i64 0, .int .i64 0]) (t := 34) ?hr ?_; (case hd => rfl); (case hg => rfl); (case hr => first | (go_simp; done) | (go_simp; rfl)); intro gb306 hg w34 hbox hb; have n0_ := Aside0.mk (blk_below (g := gb299) (o := .cells #[.int .i64 a0_0, .int .i64 a0_1, .int .i64 a0_2, .int .i64 a0_3] 34 (0, 0)) (kbq9 BK299.out) hb); have n1_ := Aside0.mk (below_step (lb1q9 HB.out GE299.out) hb); have n2_ := Aside0.mk (hbox); have n3_ := Aside0.mk ((by rw [hg]; exact (below_size (lb1q9 HB.out GE299.out)) : w.heap.size ≤ gb306)); have n4_ := Aside0.mk ((by rw [hg]; exact (below_size (lb1q9 HB.out GE299.out)) : w.heap.size ≤ gb306)); have n5_ := Aside0.mk ((by rw [hg]; exact Nat.ne_of_lt (blk_lt (g := gb299) (o := .cells #[.int .i64 a0_0, .int .i64 a0_1, .int .i64 a0_2, .int .i64 a0_3] 34 (0, 0)) (kbq9 BK299.out)) : gb299 ≠ gb306)); have n6_ := Aside0.mk ((by rw [hg]; exact Nat.ne_of_gt (blk_lt (g := gb299) (o := .cells #[.int .i64 a0_0, .int .i64 a0_1, .int .i64 a0_2, .int .i64 a0_3] 34 (0, 0)) (kbq9 BK299.out)) : gb306 ≠ gb299)); clear BK299; clear HB; have BK299 := n0_; have HB := n1_; have BK306 := n2_; have GW306 := n3_; have GE306 := n4_; have NB299_306 := n5_; have NB306_299 := n6_; clear n0_ n1_ n2_ n3_ n4_ n5_ n6_; clear hb hbox hg; have hnb35 := NB306_299.out; have hnc35 := NB299_306.out; have hcz36_0 : w34.cell? ⟨gb306, 0, none⟩ = some (.int .i64 0) := (blk_cell BK306.out 0).trans rfl; have hcz36_1 : w34.cell? ⟨gb306, 1, none⟩ = some (.int .i64 0) := (blk_cell BK306.out 1).trans rfl; have hcz36_2 : w34.cell? ⟨gb306, 2, none⟩ = some (.int .i64 0) := (blk_cell BK306.out 2).trans rfl; have hcz36_3 : w34.cell? ⟨gb306, 3, none⟩ = some (.int .i64 0) := (blk_cell BK306.out 3).trans rfl; have hfz36_0 := blk_frozen BK306.out 0; have hfz36_1 := blk_frozen BK306.out 1; have hfz36_2 := blk_frozen BK306.out 2; have hfz36_3 := blk_frozen BK306.out 3))
      generalize hrs_ : (⟨#[82]⟩ : ByteArray) ++ t305 = rs_ at H' ⊢
      go_loopg [6] kj1 (fun kq v6 w' => ∃ (x6_2 : Int) (x307000_2 : Int) (x307001_2 : Int) (x307002_2 : Int) (x307003_2 : Int), v6 = .int .i64 x6_2 ∧ Aside0 (spec_NormalOf.l0 kq rs_ x6_2 a0_0 a0_1 a0_2 a0_3 x307000_2 x307001_2 x307002_2 x307003_2 = some (r1, r2)) ∧ Aside0 (kq ≤ kj1) ∧ Aside0 (w'.heap[gb299]? = some (.cells #[.int .i64 a0_0, .int .i64 a0_1, .int .i64 a0_2, .int .i64 a0_3] 34 (0, 0))) ∧ Aside0 (w'.heap[gb306]? = some (.cells #[.int .i64 x307000_2, .int .i64 x307001_2, .int .i64 x307002_2, .int .i64 x307003_2] 34 (0, 0))) ∧ Aside0 (Below w.heap.size w w'))
      case atStart => exact ⟨(0), (1), (0), (0), (1), (by first | rfl | (simp; done) | (simp [*]; done)), H', ⟨Nat.le_refl _⟩, ⟨kf1q9 BK299.out NB299_306.out⟩, ⟨by (with_reducible repeat (first | refine blk_drewN ?_ _ | refine blk_drew ?_ | refine blk_alloc ?_ _)); refine blk_put (cs := #[.int .i64 1, .int .i64 0, .int .i64 0, .int .i64 0]) ?_ 3 _ rfl; (with_reducible repeat (first | refine blk_drewN ?_ _ | refine blk_drew ?_ | refine blk_alloc ?_ _)); refine blk_put (cs := #[.int .i64 1, .int .i64 0, .int .i64 0, .int .i64 0]) ?_ 2 _ rfl; (with_reducible repeat (first | refine blk_drewN ?_ _ | refine blk_drew ?_ | refine blk_alloc ?_ _)); refine blk_put (cs := #[.int .i64 1, .int .i64 0, .int .i64 0, .int .i64 0]) ?_ 1 _ rfl; (with_reducible repeat (first | refine blk_drewN ?_ _ | refine blk_drew ?_ | refine blk_alloc ?_ _)); refine blk_put (cs := #[.int .i64 0, .int .i64 0, .int .i64 0, .int .i64 0]) ?_ 0 _ rfl; (with_reducible repeat (first | refine blk_drewN ?_ _ | refine blk_drew ?_ | refine blk_alloc ?_ _)); exact BK306.out⟩, ⟨lb2q9 HB.out GE299.out GE306.out⟩⟩
      case round =>
       clear H'; (try clear c1); (try clear c2); (try clear p2); (try clear c3); (try clear c4); (try clear c5); (try clear c7); (try clear c9); (try clear c10); (try clear c10b0); (try clear c16); (try clear c26); (try clear c27); (try clear c27b0); (try clear c27b1); (try clear c31); (try clear c31b0); (try clear c31b1); (try clear c31b2); (try clear c35); (try clear hcz11_0); (try clear hcz11_1); (try clear hcz11_2); (try clear hcz11_3); (try clear hcz13_0); (try clear hcz13_1); (try clear hcz13_2); (try clear hcz13_3); (try clear hcz15_0); (try clear hcz15_1); (try clear hcz15_2); (try clear hcz15_3); (try clear hcz17_0); (try clear hcz17_1); (try clear hcz17_2); (try clear hcz17_3); (try clear hcz18_0); (try clear hcz18_1); (try clear hcz18_2); (try clear hcz18_3); (try clear hcz20_0); (try clear hcz20_1); (try clear hcz20_2); (try clear hcz20_3); (try clear hcz21_0); (try clear hcz21_1); (try clear hcz21_2); (try clear hcz21_3); (try clear hcz23_0); (try clear hcz23_1); (try clear hcz23_2); (try clear hcz23_3); (try clear hcz24_0); (try clear hcz24_1); (try clear hcz24_2); (try clear hcz24_3); (try clear hcz29_0); (try clear hcz29_1); (try clear hcz29_2); (try clear hcz29_3); (try clear hcz32_0); (try clear hcz32_1); (try clear hcz32_2); (try clear hcz32_3); (try clear hcz36_0); (try clear hcz36_1); (try clear hcz36_2); (try clear hcz36_3); (try clear hfz11_0); (try clear hfz11_1); (try clear hfz11_2); (try clear hfz11_3); (try clear hfz13_0); (try clear hfz13_1); (try clear hfz13_2); (try clear hfz13_3); (try clear hfz15_0); (try clear hfz15_1); (try clear hfz15_2); (try clear hfz15_3); (try clear hfz17_0); (try clear hfz17_1); (try clear hfz17_2); (try clear hfz17_3); (try clear hfz18_0); (try clear hfz18_1); (try clear hfz18_2); (try clear hfz18_3); (try clear hfz20_0); (try clear hfz20_1); (try clear hfz20_2); (try clear hfz20_3); (try clear hfz21_0); (try clear hfz21_1); (try clear hfz21_2); (try clear hfz21_3); (try clear hfz23_0); (try clear hfz23_1); (try clear hfz23_2); (try clear hfz23_3); (try clear hfz24_0); (try clear hfz24_1); (try clear hfz24_2); (try clear hfz24_3); (try clear hfz29_0); (try clear hfz29_1); (try clear hfz29_2); (try clear hfz29_3); (try clear hfz32_0); (try clear hfz32_1); (try clear hfz32_2); (try clear hfz32_3); (try clear hfz36_0); (try clear hfz36_1); (try clear hfz36_2); (try clear hfz36_3); (try clear p2)
       obtain ⟨x6_2, x307000_2, x307001_2, x307002_2, x307003_2, rfl, HA, HK2, BK299, BK306, HB⟩ := hrel
       cases gk with
       | zero => exact absurd HA.out (by simp [spec_NormalOf.l0])
       | succ k2 =>
        have H := HA.out
        clear HA
        simp only [spec_NormalOf.l0] at H
        by_cases c37 : x6_2 < (rs_.size : Int)
        ·
         rw [if_pos c37] at H
         have c37b0 : decide (x6_2 < (rs_.size : Int)) = true := decide_eq_true c37
         clear c37
         by_cases c38 : 0 ≤ x6_2
         ·
          rw [if_pos c38] at H
          have c38b0 : decide (0 ≤ x6_2) = true := decide_eq_true c38
          clear c38
          replace H := Option.bind_eq_some_iff.mp H
          obtain ⟨⟨t307, t308, t309, t310⟩, A400, H⟩ := H
          replace H : ((spec_BehindOf.f k2 x307000_2 x307001_2 x307002_2 x307003_2 t307 t308 t309 t310).bind fun bt311 => (spec_NormalOf.l0 k2 rs_ (wrap64 (x6_2 + 1)) a0_0 a0_1 a0_2 a0_3 bt311.1 bt311.2.1 bt311.2.2.1 bt311.2.2.2.1)) = some (r1, r2) := H
          have A40 := Aside0.mk A400
          clear A400
          replace H := Option.bind_eq_some_iff.mp H
          obtain ⟨⟨t311, t312, t313, t314, t315⟩, A410, H⟩ := H
          replace H : (spec_NormalOf.l0 k2 rs_ (wrap64 (x6_2 + 1)) a0_0 a0_1 a0_2 a0_3 t311 t312 t313 t314) = some (r1, r2) := H
          have A41 := Aside0.mk A410
          clear A410
          have H' := Aside0.mk H
          clear H
          try go_wp2
          have n0_ := Aside0.mk (blk_drew BK299.out)
          have n1_ := Aside0.mk (blk_drew BK306.out)
          have n2_ := Aside0.mk (below_drew1 HB.out)
          clear BK299; clear BK306; clear HB
          have BK299 := n0_
          have BK306 := n1_
          have HB := n2_
          clear n0_ n1_ n2_
          have p39 : 0 ≤ (x6_2 : Int) := of_decide_eq_true (by first | (with_reducible assumption) | assumption)
          have q39 : x6_2 < (rs_.size : Int) := of_decide_eq_true (by first | (with_reducible assumption) | assumption)
          have hx39 := bt_at rs_ x6_2
          replace p39 := eq_true p39
          replace q39 := eq_true q39
          refine start_ (n := 10) (S := fun w' => w'.cell? ⟨gb306, 0, none⟩ = some (.int .i64 x307000_2) ∧ w'.cell? ⟨gb306, 1, none⟩ = some (.int .i64 x307001_2) ∧ w'.cell? ⟨gb306, 2, none⟩ = some (.int .i64 x307002_2) ∧ w'.cell? ⟨gb306, 3, none⟩ = some (.int .i64 x307003_2)) (ds := [9]) #[false, false, false, false, false, false, false, false, false, false] (by kernel_rfl) rfl rfl ⟨(blk_cell BK306.out 0).trans rfl, (blk_cell BK306.out 1).trans rfl, (blk_cell BK306.out 2).trans rfl, (blk_cell BK306.out 3).trans rfl⟩ (fun hHeld => ?_); refine with_tabW spec_NormalOf.tab10 spec_NormalOf.bits10 (fun HT_ HW_ => ?_)
          generalize wr.drew = w42 at BK299 BK306 HB hHeld ⊢
          refine pure_ (i := 1) (N := some 56) (v := ?_) (a' := ?_) #[false, true, false, false, false, false, false, false, false, false] rfl rfl (any_of HT_.out (by kernel_rfl)) (fun _ _ _ h => h) (Or.inl ⟨by rfl, ?_⟩) ?_ ?_
          rotate_left
          ·
           intro w'
           go_simp
           with_reducible rfl
          rotate_left
          ·
           simp only [Act.put, List.setIfInBounds_toArray, List.set_cons_zero, List.set_cons_succ, i64_w, i32_w]
           rfl
          refine pure_ (i := 2) (N := some 57) (v := ?_) (a' := ?_) #[false, true, true, false, false, false, false, false, false, false] rfl rfl (any_of HT_.out (by kernel_rfl)) (fun _ _ _ h => h) (Or.inl ⟨by rfl, ?_⟩) ?_ ?_
          rotate_left
          ·
           intro w'
           go_simp
           with_reducible rfl
          rotate_left
          ·
           simp only [Act.put, List.setIfInBounds_toArray, List.set_cons_zero, List.set_cons_succ, i64_w, i32_w]
           rfl
          refine take_ (i := 0) (N := some 55) (v := ?_) (a' := ?_) #[true, true, true, false, false, false, false, false, false, false] rfl rfl (take_ofW HT_.out HW_.out (by kernel_rfl)) (fun _ _ _ h => h) (Or.inl ⟨by rfl, ?_⟩) hHeld ?_ ?_
          rotate_left
          ·
           rintro w' ⟨s0, s1, s2, s3⟩
           go_simp
           with_reducible rfl
          rotate_left
          ·
           simp only [Act.put, List.setIfInBounds_toArray, List.set_cons_zero, List.set_cons_succ, i64_w, i32_w]
           rfl
          refine take_ (i := 3) (N := some 58) (v := ?_) (a' := ?_) #[true, true, true, true, false, false, false, false, false, false] rfl rfl (take_ofW HT_.out HW_.out (by kernel_rfl)) (fun _ _ _ h => h) (Or.inl ⟨by rfl, ?_⟩) hHeld ?_ ?_
          rotate_left
          ·
           rintro w' ⟨s0, s1, s2, s3⟩
           go_simp
           with_reducible rfl
          rotate_left
          ·
           simp only [Act.put, List.setIfInBounds_toArray, List.set_cons_zero, List.set_cons_succ, i64_w, i32_w]
           rfl
          refine one_ (i := 4) (N := some 59) #[true, true, true, true, true, false, false, false, false, false] rfl rfl (one_of HT_.out (by kernel_rfl)) (by decide) (fun K hK => ?_)
          refine goes_ Tryd.func43 (by kernel_rfl) rfl #[.int .u8 (bt rs_ x6_2)] (by rfl) rfl rfl (by (try simp only [List.map_toArray, List.map_cons, List.map_nil]); first | done | rfl | (simp only [List.length_drop, List.length_take]; rfl)) ?_
          with_reducible refine (spec_l5Move.calls (bt rs_ x6_2) t307 t308 t309 t310 _ A40.out).mono ?_
          rintro e w43 ⟨rfl, hb⟩
          refine ⟨_, rfl, ?_⟩
          have n0_ := Aside0.mk (blk_below (g := gb299) (o := .cells #[.int .i64 a0_0, .int .i64 a0_1, .int .i64 a0_2, .int .i64 a0_3] 34 (0, 0)) (kbq9 BK299.out) hb)
          have n1_ := Aside0.mk (blk_below (g := gb306) (o := .cells #[.int .i64 x307000_2, .int .i64 x307001_2, .int .i64 x307002_2, .int .i64 x307003_2] 34 (0, 0)) (kbq9 BK306.out) hb)
          have n2_ := Aside0.mk (below_step (lb2q9 HB.out GE299.out GE306.out) hb)
          clear BK299; clear BK306; clear HB
          have BK299 := n0_
          have BK306 := n1_
          have HB := n2_
          clear n0_ n1_ n2_
          (try clear hb)
          (try clear hb2)
          (try clear hk)
          (try clear hi)
          refine hK.out _ _ ⟨(blk_cell BK306.out 0).trans rfl, (blk_cell BK306.out 1).trans rfl, (blk_cell BK306.out 2).trans rfl, (blk_cell BK306.out 3).trans rfl⟩ (fun hHeld => ?_)
          clear hK K
          refine norm_ (a' := ?_) ?_ ?_
          rotate_left
          ·
           show Act.put _ (some 59) _ = _
           simp only [Act.put, List.setIfInBounds_toArray, List.set_cons_zero, List.set_cons_succ, i64_w, i32_w]
           rfl
          refine one_ (i := 5) (N := some 60) #[true, true, true, true, true, true, false, false, false, false] rfl rfl (one_of HT_.out (by kernel_rfl)) (by decide) (fun K hK => ?_)
          refine goes_ Tryd.func42 (by kernel_rfl) rfl #[.agg #[.int .i64 x307000_2, .int .i64 x307001_2, .int .i64 x307002_2, .int .i64 x307003_2], .agg #[.int .i64 t307, .int .i64 t308, .int .i64 t309, .int .i64 t310]] (by rfl) rfl rfl (by (try simp only [List.map_toArray, List.map_cons, List.map_nil]); first | done | rfl | (simp only [List.length_drop, List.length_take]; rfl)) ?_
          with_reducible refine (spec_BehindOf.calls k2 x307000_2 x307001_2 x307002_2 x307003_2 t307 t308 t309 t310 t311 t312 t313 t314 t315 _ A41.out).mono ?_
          rintro e w44 ⟨rfl, hb⟩
          refine ⟨_, rfl, ?_⟩
          have n0_ := Aside0.mk (blk_below (g := gb299) (o := .cells #[.int .i64 a0_0, .int .i64 a0_1, .int .i64 a0_2, .int .i64 a0_3] 34 (0, 0)) (kbq9 BK299.out) hb)
          have n1_ := Aside0.mk (blk_below (g := gb306) (o := .cells #[.int .i64 x307000_2, .int .i64 x307001_2, .int .i64 x307002_2, .int .i64 x307003_2] 34 (0, 0)) (kbq9 BK306.out) hb)
          have n2_ := Aside0.mk (below_step (lb2q9 HB.out GE299.out GE306.out) hb)
          clear BK299; clear BK306; clear HB
          have BK299 := n0_
          have BK306 := n1_
          have HB := n2_
          clear n0_ n1_ n2_
          (try clear hb)
          (try clear hb2)
          (try clear hk)
          (try clear hi)
          refine hK.out _ _ ⟨(blk_cell BK306.out 0).trans rfl, (blk_cell BK306.out 1).trans rfl, (blk_cell BK306.out 2).trans rfl, (blk_cell BK306.out 3).trans rfl⟩ (fun hHeld => ?_)
          clear hK K
          refine norm_ (a' := ?_) ?_ ?_
          rotate_left
          ·
           show Act.put _ (some 60) _ = _
           simp only [Act.put, List.setIfInBounds_toArray, List.set_cons_zero, List.set_cons_succ, i64_w, i32_w]
           rfl
          refine pure_ (i := 6) (N := some 54) (v := ?_) (a' := ?_) #[true, true, true, true, true, true, true, false, false, false] rfl rfl (any_of HT_.out (by kernel_rfl)) (fun _ _ _ h => h) (Or.inl ⟨by rfl, ?_⟩) ?_ ?_
          rotate_left
          ·
           intro w'
           go_simp
           with_reducible rfl
          rotate_left
          ·
           simp only [Act.put, List.setIfInBounds_toArray, List.set_cons_zero, List.set_cons_succ, i64_w, i32_w]
           rfl
          refine pure_ (i := 7) (N := some 61) (v := ?_) (a' := ?_) #[true, true, true, true, true, true, true, true, false, false] rfl rfl (any_of HT_.out (by kernel_rfl)) (fun _ _ _ h => h) (Or.inl ⟨by rfl, ?_⟩) ?_ ?_
          rotate_left
          ·
           intro w'
           go_simp
           with_reducible rfl
          rotate_left
          ·
           simp only [Act.put, List.setIfInBounds_toArray, List.set_cons_zero, List.set_cons_succ, i64_w, i32_w]
           rfl
          refine pure_ (i := 8) (N := some 62) (v := ?_) (a' := ?_) #[true, true, true, true, true, true, true, true, true, false] rfl rfl (any_of HT_.out (by kernel_rfl)) (fun _ _ _ h => h) (Or.inl ⟨by rfl, ?_⟩) ?_ ?_
          rotate_left
          ·
           intro w'
           go_simp
           with_reducible rfl
          rotate_left
          ·
           simp only [Act.put, List.setIfInBounds_toArray, List.set_cons_zero, List.set_cons_succ, i64_w, i32_w]
           rfl
          refine last_ (i := 9) (N := none) #[true, true, true, true, true, true, true, true, true, true] rfl rfl (one_of HT_.out (by kernel_rfl)) (by decide) (fun K hK => ?_)
          have hs45 : w44.cell? ⟨gb306, 0, none⟩ = some (.int .i64 x307000_2) := (blk_cell BK306.out 0).trans rfl
          have hfs45 := blk_frozen BK306.out 0
          have hns45_0 := NB299_306.out
          have hms45_0 := NB306_299.out
          have hs46 : w44.cell? ⟨gb306, 1, none⟩ = some (.int .i64 x307001_2) := (blk_cell BK306.out 1).trans rfl
          have hfs46 := blk_frozen BK306.out 1
          have hns46_0 := NB299_306.out
          have hms46_0 := NB306_299.out
          have hs47 : w44.cell? ⟨gb306, 2, none⟩ = some (.int .i64 x307002_2) := (blk_cell BK306.out 2).trans rfl
          have hfs47 := blk_frozen BK306.out 2
          have hns47_0 := NB299_306.out
          have hms47_0 := NB306_299.out
          have hs48 : w44.cell? ⟨gb306, 3, none⟩ = some (.int .i64 x307003_2) := (blk_cell BK306.out 3).trans rfl
          have hfs48 := blk_frozen BK306.out 3
          have hns48_0 := NB299_306.out
          have hms48_0 := NB306_299.out
          refine skip_ (w1 := ?_) (by rfl) rfl ?_ ?_
          rotate_left
          ·
           go_simp
           rfl
          refine hK.out _ _ ?_
          clear hK K
          refine done_ (done_of HT_.out (by kernel_rfl)) ?_
          try go_wp2
          go_roundg k2
          case measure => have := HJ1.out; have := HK2.out; omega
          case rel => exact ⟨(wrap64 (x6_2 + 1)), (t311), (t312), (t313), (t314), (by first | rfl | (simp; done) | (simp [*]; done)), H', ⟨by have := HJ1.out; have := HK2.out; omega⟩, ⟨kf1q9 BK299.out NB299_306.out⟩, ⟨by (with_reducible repeat (first | refine blk_drewN ?_ _ | refine blk_drew ?_ | refine blk_alloc ?_ _)); refine blk_put (cs := #[.int .i64 t311, .int .i64 t312, .int .i64 t313, .int .i64 x307003_2]) ?_ 3 _ rfl; (with_reducible repeat (first | refine blk_drewN ?_ _ | refine blk_drew ?_ | refine blk_alloc ?_ _)); refine blk_put (cs := #[.int .i64 t311, .int .i64 t312, .int .i64 x307002_2, .int .i64 x307003_2]) ?_ 2 _ rfl; (with_reducible repeat (first | refine blk_drewN ?_ _ | refine blk_drew ?_ | refine blk_alloc ?_ _)); refine blk_put (cs := #[.int .i64 t311, .int .i64 x307001_2, .int .i64 x307002_2, .int .i64 x307003_2]) ?_ 1 _ rfl; (with_reducible repeat (first | refine blk_drewN ?_ _ | refine blk_drew ?_ | refine blk_alloc ?_ _)); refine blk_put (cs := #[.int .i64 x307000_2, .int .i64 x307001_2, .int .i64 x307002_2, .int .i64 x307003_2]) ?_ 0 _ rfl; (with_reducible repeat (first | refine blk_drewN ?_ _ | refine blk_drew ?_ | refine blk_alloc ?_ _)); exact BK306.out⟩, ⟨lb2q9 HB.out GE299.out GE306.out⟩⟩
         ·
          rw [if_neg c38] at H
          exact absurd H (by simp)
        ·
         rw [if_neg c37] at H
         have c37b0 : decide (x6_2 < (rs_.size : Int)) = false := decide_eq_false c37
         clear c37
         by_cases c49 : x307002_2 = 0
         ·
          rw [if_pos c49] at H
          exact absurd H (by simp)
         ·
          rw [if_neg c49] at H
          have c49b0 : (x307002_2 == 0) = false := beq_eq_false_iff_ne.mpr c49
          have c49b1 : (x307002_2 != 0) = true := bne_iff_ne.mpr c49
          replace H := Option.bind_eq_some_iff.mp H
          obtain ⟨t316, A500, H⟩ := H
          replace H : (if t316.size + rs_.size ≤ 9223372036854775807 then (if ((t316 ++ rs_).size : Int) > 200 then (some ((⟨#[]⟩ : ByteArray), false)) else (some (t316 ++ rs_, true))) else (none)) = some (r1, r2) := H
          have A50 := Aside0.mk A500
          clear A500
          by_cases c51 : t316.size + rs_.size ≤ 9223372036854775807
          ·
           rw [if_pos c51] at H
           have c51b0 := eq_true c51
           have c51b1 : decide (t316.size + rs_.size ≤ 9223372036854775807) = true := decide_eq_true c51
           try have c51b2 : (9223372036854775807 < t316.size + rs_.size) = False := eq_false (Nat.not_lt.2 c51)
           by_cases c52 : ((t316 ++ rs_).size : Int) > 200
           ·
            rw [if_pos c52] at H
            have c52b0 : decide (200 < ((t316 ++ rs_).size : Int)) = true := decide_eq_true c52
            have c52b1 : decide (200 < (t316 ++ rs_).size) = true := decide_eq_true (by omega)
            have c52q : (t316 ++ rs_).size = t316.size + rs_.size := ByteArray.size_append
            have c52b2 : decide (200 < (t316.size : Int) + (rs_.size : Int)) = true := decide_eq_true (by omega)
            have c52b3 : decide (200 < t316.size + rs_.size) = true := decide_eq_true (by omega)
            clear c52q; clear c52
            simp only [Option.some.injEq, Prod.mk.injEq] at H
            obtain ⟨rfl, rfl⟩ := H
            have hnb53 := NB299_306.out
            have hnc53 := NB306_299.out
            have hcz54_0 : wr.cell? ⟨gb299, 0, none⟩ = some (.int .i64 a0_0) := (blk_cell BK299.out 0).trans rfl
            have hcz54_1 : wr.cell? ⟨gb299, 1, none⟩ = some (.int .i64 a0_1) := (blk_cell BK299.out 1).trans rfl
            have hcz54_2 : wr.cell? ⟨gb299, 2, none⟩ = some (.int .i64 a0_2) := (blk_cell BK299.out 2).trans rfl
            have hcz54_3 : wr.cell? ⟨gb299, 3, none⟩ = some (.int .i64 a0_3) := (blk_cell BK299.out 3).trans rfl
            have hfz54_0 := blk_frozen BK299.out 0
            have hfz54_1 := blk_frozen BK299.out 1
            have hfz54_2 := blk_frozen BK299.out 2
            have hfz54_3 := blk_frozen BK299.out 3
            have hcz55_0 : wr.cell? ⟨gb306, 0, none⟩ = some (.int .i64 x307000_2) := (blk_cell BK306.out 0).trans rfl
            have hcz55_1 : wr.cell? ⟨gb306, 1, none⟩ = some (.int .i64 x307001_2) := (blk_cell BK306.out 1).trans rfl
            have hcz55_2 : wr.cell? ⟨gb306, 2, none⟩ = some (.int .i64 x307002_2) := (blk_cell BK306.out 2).trans rfl
            have hcz55_3 : wr.cell? ⟨gb306, 3, none⟩ = some (.int .i64 x307003_2) := (blk_cell BK306.out 3).trans rfl
            have hfz55_0 := blk_frozen BK306.out 0
            have hfz55_1 := blk_frozen BK306.out 1
            have hfz55_2 := blk_frozen BK306.out 2
            have hfz55_3 := blk_frozen BK306.out 3
            go_wp2_with (first | ((with_reducible refine gate_callee (f := 40) rfl ?_); refine goesL_ (some 71) rfl rfl Tryd.func40 (by kernel_rfl) rfl #[.int .i64 (wrap64 (Int.tdiv (wrap64 (a0_3 - x307003_2)) x307002_2))] rfl (by (try simp only [List.map_toArray, List.map_cons, List.map_nil]); first | done | rfl | (simp only [List.length_drop, List.length_take]; rfl)) ?_; (with_reducible refine (spec_l4Twists.calls k2 (wrap64 (Int.tdiv (wrap64 (a0_3 - x307003_2)) x307002_2)) t316 _ A50.out).mono ?_); rintro e w' ⟨rfl, ⟨nd, rfl⟩⟩; refine ⟨_, rfl, ?_⟩))
            go_ret2
            exact ⟨by first | rfl | (simp [errW_none, errW_some] <;> rfl) | (simp [*, errW_none, errW_some] <;> rfl), by repeat (first | (with_reducible first | exact HB.out | apply below_alloc | apply pw_below_drewN | apply below_drew1 | refine below_set ?_ GE299.out | refine below_set ?_ GE306.out) | exact HB.out)⟩
           ·
            rw [if_neg c52] at H
            have c52b0 : decide (200 < ((t316 ++ rs_).size : Int)) = false := decide_eq_false c52
            have c52b1 : decide (200 < (t316 ++ rs_).size) = false := decide_eq_false (by omega)
            have c52q : (t316 ++ rs_).size = t316.size + rs_.size := ByteArray.size_append
            have c52b2 : decide (200 < (t316.size : Int) + (rs_.size : Int)) = false := decide_eq_false (by omega)
            have c52b3 : decide (200 < t316.size + rs_.size) = false := decide_eq_false (by omega)
            clear c52q; clear c52
            simp only [Option.some.injEq, Prod.mk.injEq] at H
            obtain ⟨rfl, rfl⟩ := H
            have hnb56 := NB299_306.out
            have hnc56 := NB306_299.out
            have hcz57_0 : wr.cell? ⟨gb299, 0, none⟩ = some (.int .i64 a0_0) := (blk_cell BK299.out 0).trans rfl
            have hcz57_1 : wr.cell? ⟨gb299, 1, none⟩ = some (.int .i64 a0_1) := (blk_cell BK299.out 1).trans rfl
            have hcz57_2 : wr.cell? ⟨gb299, 2, none⟩ = some (.int .i64 a0_2) := (blk_cell BK299.out 2).trans rfl
            have hcz57_3 : wr.cell? ⟨gb299, 3, none⟩ = some (.int .i64 a0_3) := (blk_cell BK299.out 3).trans rfl
            have hfz57_0 := blk_frozen BK299.out 0
            have hfz57_1 := blk_frozen BK299.out 1
            have hfz57_2 := blk_frozen BK299.out 2
            have hfz57_3 := blk_frozen BK299.out 3
            have hcz58_0 : wr.cell? ⟨gb306, 0, none⟩ = some (.int .i64 x307000_2) := (blk_cell BK306.out 0).trans rfl
            have hcz58_1 : wr.cell? ⟨gb306, 1, none⟩ = some (.int .i64 x307001_2) := (blk_cell BK306.out 1).trans rfl
            have hcz58_2 : wr.cell? ⟨gb306, 2, none⟩ = some (.int .i64 x307002_2) := (blk_cell BK306.out 2).trans rfl
            have hcz58_3 : wr.cell? ⟨gb306, 3, none⟩ = some (.int .i64 x307003_2) := (blk_cell BK306.out 3).trans rfl
            have hfz58_0 := blk_frozen BK306.out 0
            have hfz58_1 := blk_frozen BK306.out 1
            have hfz58_2 := blk_frozen BK306.out 2
            have hfz58_3 := blk_frozen BK306.out 3
            go_wp2_with (first | ((with_reducible refine gate_callee (f := 40) rfl ?_); refine goesL_ (some 71) rfl rfl Tryd.func40 (by kernel_rfl) rfl #[.int .i64 (wrap64 (Int.tdiv (wrap64 (a0_3 - x307003_2)) x307002_2))] rfl (by (try simp only [List.map_toArray, List.map_cons, List.map_nil]); first | done | rfl | (simp only [List.length_drop, List.length_take]; rfl)) ?_; (with_reducible refine (spec_l4Twists.calls k2 (wrap64 (Int.tdiv (wrap64 (a0_3 - x307003_2)) x307002_2)) t316 _ A50.out).mono ?_); rintro e w' ⟨rfl, ⟨nd, rfl⟩⟩; refine ⟨_, rfl, ?_⟩))
            go_ret2
            exact ⟨by first | rfl | (simp [errW_none, errW_some] <;> rfl) | (simp [*, errW_none, errW_some] <;> rfl), by repeat (first | (with_reducible first | exact HB.out | apply below_alloc | apply pw_below_drewN | apply below_drew1 | refine below_set ?_ GE299.out | refine below_set ?_ GE306.out) | exact HB.out)⟩
          ·
           rw [if_neg c51] at H
           exact absurd H (by simp)
     ·
      rw [if_neg c31] at H
      exact absurd H (by simp)

/-! ### impl_areMoves: function 64 -/
def impl_areMoves.f (a0 : ByteArray) : Option (Bool) := if a0.size ≤ 9223372036854775807 then some (a0.data.toList.all fun c => c == 84 || c == 116 || c == 82) else none
theorem impl_areMoves.dw_nil {α : Type} (p : α → Bool) (l : List α) : l.dropWhile p = [] ↔ l.all p = true := by
  induction l with
  | nil => simp
  | cons a l ih =>
    by_cases h : p a = true
    · simp [List.dropWhile, h, ih]
    · simp [List.dropWhile, h]
theorem impl_areMoves.dw_all {α : Type} (p : α → Bool) (l : List α) (h : (l.dropWhile p).all p = true) : l.all p = true := by
  induction l with
  | nil => rfl
  | cons a l ih =>
    by_cases hp : p a = true
    · simp only [List.dropWhile, hp] at h
      rw [List.all_cons, hp, ih h]; rfl
    · have hp' : p a = false := by simpa using hp
      simp only [List.dropWhile, hp'] at h
      rw [List.all_cons, hp'] at h
      simp at h
theorem impl_areMoves.both (p : UInt8 → Bool) (l : List UInt8) : (((l.reverse.dropWhile p).reverse).dropWhile p = []) ↔ l.all p = true := by
  rw [dw_nil, List.all_reverse]
  constructor
  · intro h
    have := dw_all p l.reverse h
    rwa [List.all_reverse] at this
  · intro h
    have : l.reverse.dropWhile p = [] := (dw_nil p l.reverse).2 (by rw [List.all_reverse]; exact h)
    rw [this]; rfl
theorem impl_areMoves.trimmed (l : List UInt8) : (Lib.trimS l [84, 116, 82] = []) ↔ (l.all fun c => c == 84 || c == 116 || c == 82) = true := by
  show (((l.reverse.dropWhile (([84, 116, 82] : List UInt8).contains ·)).reverse).dropWhile (([84, 116, 82] : List UInt8).contains ·) = []) ↔ _
  rw [both]
  have : (fun x => ([84, 116, 82] : List UInt8).contains x) = fun c => c == 84 || c == 116 || c == 82 := by
    funext c
    simp only [List.contains, List.elem]
    cases (c == 84) <;> cases (c == 116) <;> cases (c == 82) <;> rfl
  rw [this]
set_option maxHeartbeats 1000000 in
theorem impl_areMoves.calls (a0 : ByteArray) (r : Bool) (w : World) (h : impl_areMoves.f a0 = some r) :
  Calls Tryd.prog 64 #[.string a0] w fun e w' => e = .returned (.bool r) ∧ Below w.heap.size w w' := by
 unfold impl_areMoves.f at h
 split at h
 ·
  rename_i hs
  obtain rfl := Option.some.inj h
  have hcon := Any.strings_Trim_laid Tryd.lays160 (by kernel_rfl) a0 ⟨#[84, 116, 82]⟩ w hs (by decide) (ascii_of_all (by decide))
  change Calls Tryd.prog 80 _ _ (fun e w' => e = .returned (.string ⟨(Lib.trimS a0.data.toList [84, 116, 82]).toArray⟩) ∧ Below w.heap.size w w') at hcon
  have ht := impl_areMoves.trimmed a0.data.toList
  generalize Lib.trimS a0.data.toList [84, 116, 82] = t at hcon ht
  by_cases hb : t = []
  ·
   subst hb
   rw [ht.1 rfl]
   clear ht
   go_enter Tryd.func64, Tryd.ntmps64
   go_wp2_with (go_at_call 80; refine hcon.mono ?_; rintro e w' ⟨rfl, hB⟩)
   go_ret
   exact ⟨rfl, hB⟩
  ·
   have hf : (a0.data.toList.all fun c => c == 84 || c == 116 || c == 82) = false := by
    rw [← Bool.not_eq_true]; exact fun x => hb (ht.2 x)
   rw [hf]
   clear ht hf
   go_enter Tryd.func64, Tryd.ntmps64
   go_wp2_with (go_at_call 80; refine hcon.mono ?_; rintro e w' ⟨rfl, hB⟩)
   go_ret
   exact ⟨by simp [hb], hB⟩
 ·
  cases h

/-! ### impl_isDance: function 44 -/
def impl_isDance.f (a0 : ByteArray) : Option (Bool) := if (a0.size : Int) ≤ 40 then ((impl_areMoves.f a0).bind fun t317 => (some t317)) else (some false)
set_option maxHeartbeats 8000000 in
set_option maxRecDepth 100000 in
theorem impl_isDance.calls (a0 : ByteArray) (r : Bool) (w : World) (h : impl_isDance.f a0 = some r) :
  Calls Tryd.prog 44 #[.string a0] w fun e w' => e = .returned (.bool r) ∧ Below w.heap.size w w' := by
 have HB := Aside0.mk (Below.refl w.heap.size w)
 have H : (if (a0.size : Int) ≤ 40 then ((impl_areMoves.f a0).bind fun t317 => (some t317)) else (some false)) = some r := h
 clear h
 by_cases c2 : (a0.size : Int) ≤ 40
 ·
  rw [if_pos c2] at H
  have c2b0 : decide ((a0.size : Int) ≤ 40) = true := decide_eq_true c2
  have c2b1 : decide (a0.size ≤ 40) = true := decide_eq_true (by omega)
  clear c2
  replace H := Option.bind_eq_some_iff.mp H
  obtain ⟨t317, A30, H⟩ := H
  replace H : (some t317) = some r := H
  have A3 := Aside0.mk A30
  clear A30
  obtain rfl := Option.some.inj H
  go_enter Tryd.func44, Tryd.ntmps44
  go_wp2_with (first | (go_at_call 64; (with_reducible refine (impl_areMoves.calls a0 t317 _ A3.out).mono ?_); rintro e w4 ⟨rfl, hb⟩; have n0_ := Aside0.mk (below_step (lb0q9 HB.out) hb); clear HB; have HB := n0_; clear n0_; (try clear hb); (try clear hb2); (try clear hk); (try clear hi)))
  go_ret
  exact ⟨by first | rfl | (simp [errW_none, errW_some] <;> rfl) | (simp [*, errW_none, errW_some] <;> rfl), by repeat (first | (with_reducible first | exact HB.out | apply below_alloc | apply pw_below_drewN | apply below_drew1) | exact HB.out)⟩
 ·
  rw [if_neg c2] at H
  have c2b0 : decide ((a0.size : Int) ≤ 40) = false := decide_eq_false c2
  have c2b1 : decide (a0.size ≤ 40) = false := decide_eq_false (by omega)
  clear c2
  obtain rfl := Option.some.inj H
  go_enter Tryd.func44, Tryd.ntmps44
  go_wp2
  go_ret
  exact ⟨by first | rfl | (simp [errW_none, errW_some] <;> rfl) | (simp [*, errW_none, errW_some] <;> rfl), by repeat (first | (with_reducible first | exact HB.out | apply below_alloc | apply pw_below_drewN | apply below_drew1) | exact HB.out)⟩

end Go.Proofs.YtebihngdlokhfaaDoor.PFnNormalOf
