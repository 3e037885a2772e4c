/- Walks of functions that the law reaches (lines that the kit's print wrote, over contracts of this session's own). -/
import Derived.Test.YtebihngdlokhfaaDoorPFnReadFractionx0
import Derived.Test.YtebihngdlokhfaaDoorPFnReadFractionx3
import Derived.Test.YtebihngdlokhfaaDoorPFnReadFractionx4
namespace Go.Proofs.YtebihngdlokhfaaDoor.PFnReadFraction
open Go.RowKit Go.Proofs.YtebihngdlokhfaaDoorW.PrintWords Go.Proofs.YtebihngdlokhfaaDoorW.PrintLast Go.Proofs.YtebihngdlokhfaaDoorW.PrintMore
attribute [local go_sem] max2_int min2_int max_two min_two max_three min_three max_four min_four   -- for this text's walks alone
set_option linter.unusedVariables false
set_option linter.unusedSimpArgs false
theorem kbq5 {Q P : Prop} (q : Q) (h : Q → P := by intro q_; (with_reducible repeat (first | refine blk_drewN ?_ _ | refine blk_drew ?_ | refine blk_alloc ?_ _)); exact q_) : P := h q
theorem krq5 {Q P : Prop} (q : Q) (h : Q → P := by intro q_; (with_reducible repeat (first | apply Kd.R_alloc | apply Kd.R_drewN | apply Kd.R_drew)); exact q_) : P := h q
theorem kf1q5 {Q P : Prop} {N0 : Prop} (q : Q) (n0 : N0) (h : Q → N0 → P := by intro q_ m0_; (with_reducible repeat (first | refine blk_drewN ?_ _ | refine blk_drew ?_ | refine blk_alloc ?_ _ | refine blk_far ?_ m0_ _)); exact q_) : P := h q n0
theorem lb0q5 {Q P : Prop} (q : Q)  (h : Q → P := by intro q_ ; repeat (first | (with_reducible first | exact q_ | apply below_alloc | apply pw_below_drewN | apply below_drew1) | exact q_)) : P := h q 

/-! ### spec_l20Rd_odd: function 49 -/
def spec_l20Rd_odd.f (k : Nat) (s0_0 : List Int) (s0_1 : Int) (a1 : Int) : Option (Bool × Int) := if a1 > 0 then ((spec_l20Rd_pick.f k s0_0 s0_1 a1).bind fun bt140 => (some ((bt140.1 == (wrap64 (a1 - 1))), bt140.2))) else (some (false, s0_1))
theorem spec_l20Rd_odd.mono : ∀ a0 a1 a2 k, LeO (spec_l20Rd_odd.f k a0 a1 a2) (spec_l20Rd_odd.f (k + 1) a0 a1 a2) := by
  intro a0 a1 a2 k
  unfold spec_l20Rd_odd.f
  repeat' first
      | (with_reducible exact spec_l20Rd_pick.mono _ _ _ _)
      | (with_reducible exact LeO.refl _)
      | (with_reducible exact LeO.none _)
      | (with_reducible refine LeO.ite ?_ ?_)
      | (with_reducible refine LeO.bind ?_ (fun _ => ?_))
      | exact spec_l20Rd_pick.mono _ _ _ _
      | exact LeO.none _
      | refine LeO.ite ?_ ?_
      | refine LeO.bind ?_ (fun _ => ?_)
set_option maxHeartbeats 8000000 in
set_option maxRecDepth 100000 in
theorem spec_l20Rd_odd.calls (k : Nat) (g : Nat) (s0_0 : List Int) (s0_1 : Int) (a1 : Int) (r1 : Bool) (r2 : Int) (w0 w : World) (hI : IsS70 w0 w g s0_0 s0_1) (hB : Below w0.heap.size w0 w) (h : spec_l20Rd_odd.f k s0_0 s0_1 a1 = some (r1, r2)) :
  Calls Tryd.prog 49 #[.pointer (some ⟨g, 0, none⟩), .int .i64 a1] w fun e w' => e = .returned (.bool r1) ∧ IsS70 w0 w' g s0_0 r2 ∧ Below w0.heap.size w0 w' ∧ KeepBut w w' g none := by
 have HI0 := Aside0.mk hI
 have HK := Aside0.mk (KeepBut.refl w g none)
 have HL := Aside0.mk hB.size
 clear hI
 have HW0 := Aside0.mk hB.size
 have HB := Aside0.mk hB
 clear hB
 have H : (if a1 > 0 then ((spec_l20Rd_pick.f k s0_0 s0_1 a1).bind fun bt140 => (some ((bt140.1 == (wrap64 (a1 - 1))), bt140.2))) else (some (false, s0_1))) = some (r1, r2) := h
 clear h
 by_cases c3 : a1 > 0
 ·
  rw [if_pos c3] at H
  have c3b0 : decide (0 < a1) = true := decide_eq_true c3
  clear c3
  replace H := Option.bind_eq_some_iff.mp H
  obtain ⟨⟨t140, t141⟩, A40, H⟩ := H
  replace H : (some ((t140 == (wrap64 (a1 - 1))), t141)) = some (r1, r2) := H
  have A4 := Aside0.mk A40
  clear A40
  simp only [Option.some.injEq, Prod.mk.injEq] at H
  obtain ⟨rfl, rfl⟩ := H
  go_enter Tryd.func49, Tryd.ntmps49
  go_wp2_with (first | (go_at_call 28; (with_reducible refine (spec_l20Rd_pick.calls k g s0_0 s0_1 a1 t140 t141 w0 _ ?side1 ?side2 A4.out).mono ?_); (case side1 => repeat (first | (with_reducible first | exact HI0.out | apply IsS70.alloc | apply IsS70.drewN | apply IsS70.drew | apply IsS70.set_1) | exact HI0.out)); (case side2 => repeat (first | (with_reducible first | exact HB.out | apply below_alloc | apply pw_below_drewN | apply below_drew1 | refine below_set ?_ (IsS70.ge HI0.out)) | exact HB.out)); rintro e w5 ⟨rfl, hi, hb, hk⟩; have n0_ := Aside0.mk (KeepBut.trans (by repeat (first | (with_reducible first | exact HK.out | apply KeepBut.set_ | apply keep_drewN | apply keep_drew | apply keep_alloc) | exact HK.out)) hk (.inl rfl)); have n1_ := Aside0.mk (hb); have n2_ := Aside0.mk (hi); clear HK; clear HB; clear HI0; have HK := n0_; have HB := n1_; have HI0 := n2_; clear n0_ n1_ n2_; (try clear hb); (try clear hb2); (try clear hk); (try clear hi)))
  go_ret
  exact ⟨by first | rfl | (simp [errW_none, errW_some] <;> rfl) | (simp [*, errW_none, errW_some] <;> rfl), by repeat (first | (with_reducible first | exact HI0.out | apply IsS70.alloc | apply IsS70.drewN | apply IsS70.drew | apply IsS70.set_1) | exact HI0.out), by repeat (first | (with_reducible first | exact HB.out | apply below_alloc | apply pw_below_drewN | apply below_drew1 | refine below_set ?_ (IsS70.ge HI0.out)) | exact HB.out), by repeat (first | (with_reducible first | exact HK.out | apply KeepBut.set_ | apply keep_drewN | apply keep_drew | apply keep_alloc) | exact HK.out)⟩
 ·
  rw [if_neg c3] at H
  have c3b0 : decide (0 < a1) = false := decide_eq_false c3
  clear c3
  simp only [Option.some.injEq, Prod.mk.injEq] at H
  obtain ⟨rfl, rfl⟩ := H
  go_enter Tryd.func49, Tryd.ntmps49
  go_wp2
  go_ret
  exact ⟨by first | rfl | (simp [errW_none, errW_some] <;> rfl) | (simp [*, errW_none, errW_some] <;> rfl), by repeat (first | (with_reducible first | exact HI0.out | apply IsS70.alloc | apply IsS70.drewN | apply IsS70.drew | apply IsS70.set_1) | exact HI0.out), by repeat (first | (with_reducible first | exact HB.out | apply below_alloc | apply pw_below_drewN | apply below_drew1 | refine below_set ?_ (IsS70.ge HI0.out)) | exact HB.out), by repeat (first | (with_reducible first | exact HK.out | apply KeepBut.set_ | apply keep_drewN | apply keep_drew | apply keep_alloc) | exact HK.out)⟩

/-! ### spec_l20Fraction: function 20 -/
def spec_l20Fraction.j0 : Nat → Int → List Int → Int → Int → Int → Option (Int × Int × Int)
  | 0, _, _, _, _, _ => none
  | k + 1, x1, x1000, x1001, x159000, x159001 => (spec_l20Rd_odd.f k x1000 x1001 x1).bind fun bt159 => (if bt159.1 = true then ((some (([(⟨0, 0⟩ : S24), (⟨2, 4⟩ : S24), (⟨1, (-2)⟩ : S24), (⟨(-1), 0⟩ : S24), (⟨1000001, 1⟩ : S24)] : List (S24)) : List (S24))).bind fun y161 => ((spec_l20Rd_pick.f k x1000 bt159.2 5).bind fun bt164 => (if 0 ≤ bt164.1 then (if bt164.1 < (y161.length : Int) then (some ((rd_T24 y161 bt164.1).f0, (rd_T24 y161 bt164.1).f1, bt164.2)) else (none)) else (none)))) else (some (x159000, x159001, bt159.2)))
def spec_l20Fraction.f (k : Nat) (s0_0 : List Int) (s0_1 : Int) (a1 : Int) : Option (Int × Int × Int) := (some (([4, 10, 50, 1000] : List Int) : List Int)).bind fun y143 => ((spec_l20Rd_pick.f k s0_0 s0_1 4).bind fun bt146 => (if 0 ≤ bt146.1 then (if bt146.1 < (y143.length : Int) then ((spec_l20Rd_pick.f k s0_0 bt146.2 (rd y143 bt146.1)).bind fun bt149 => ((spec_l20Rd_pick.f k s0_0 bt149.2 (rd y143 bt146.1)).bind fun bt151 => ((spec_l20Rd_pick.f k s0_0 bt151.2 (rd y143 bt146.1)).bind fun bt153 => ((spec_LowestOf.f k (wrap64 (bt149.1 - bt151.1)) bt153.1).bind fun bt155 => (if bt155.2.2 = true then (spec_l20Fraction.j0 k a1 s0_0 bt153.2 bt155.1 bt155.2.1) else (spec_l20Fraction.j0 k a1 s0_0 bt153.2 1 0)))))) else (none)) else (none)))
theorem spec_l20Fraction.mono_l : ∀ k, (∀ y0 y1 y2 y3 y4, LeO (spec_l20Fraction.j0 k y0 y1 y2 y3 y4) (spec_l20Fraction.j0 (k + 1) y0 y1 y2 y3 y4))
  | 0 => fun _ _ _ _ _ r h => by simp [spec_l20Fraction.j0] at h
  | k + 1 => by
    have ih0 := spec_l20Fraction.mono_l k
    · intro y0 y1 y2 y3 y4
      unfold spec_l20Fraction.j0
      repeat' first
      | (with_reducible exact ih0 _ _ _ _ _)
      | (with_reducible exact spec_LowestOf.mono _ _ _)
      | (with_reducible exact spec_l20Rd_odd.mono _ _ _ _)
      | (with_reducible exact spec_l20Rd_pick.mono _ _ _ _)
      | (with_reducible exact LeO.refl _)
      | (with_reducible exact LeO.none _)
      | (with_reducible refine LeO.ite ?_ ?_)
      | (with_reducible refine LeO.bind ?_ (fun _ => ?_))
      | exact ih0 _ _ _ _ _
      | exact spec_LowestOf.mono _ _ _
      | exact spec_l20Rd_odd.mono _ _ _ _
      | exact spec_l20Rd_pick.mono _ _ _ _
      | exact LeO.none _
      | refine LeO.ite ?_ ?_
      | refine LeO.bind ?_ (fun _ => ?_)
theorem spec_l20Fraction.mono : ∀ a0 a1 a2 k, LeO (spec_l20Fraction.f k a0 a1 a2) (spec_l20Fraction.f (k + 1) a0 a1 a2) := by
  intro a0 a1 a2 k
  have ih0 := spec_l20Fraction.mono_l k
  unfold spec_l20Fraction.f
  repeat' first
      | (with_reducible exact ih0 _ _ _ _ _)
      | (with_reducible exact spec_LowestOf.mono _ _ _)
      | (with_reducible exact spec_l20Rd_odd.mono _ _ _ _)
      | (with_reducible exact spec_l20Rd_pick.mono _ _ _ _)
      | (with_reducible exact LeO.refl _)
      | (with_reducible exact LeO.none _)
      | (with_reducible refine LeO.ite ?_ ?_)
      | (with_reducible refine LeO.bind ?_ (fun _ => ?_))
      | exact ih0 _ _ _ _ _
      | exact spec_LowestOf.mono _ _ _
      | exact spec_l20Rd_odd.mono _ _ _ _
      | exact spec_l20Rd_pick.mono _ _ _ _
      | exact LeO.none _
      | refine LeO.ite ?_ ?_
      | refine LeO.bind ?_ (fun _ => ?_)
set_option maxHeartbeats 8000000 in
set_option maxRecDepth 100000 in
theorem spec_l20Fraction.calls (k : Nat) (g : Nat) (s0_0 : List Int) (s0_1 : Int) (a1 : Int) (r1 : Int) (r2 : Int) (r3 : Int) (w0 w : World) (hI : IsS70 w0 w g s0_0 s0_1) (hB : Below w0.heap.size w0 w) (h : spec_l20Fraction.f k s0_0 s0_1 a1 = some (r1, r2, r3)) :
  Calls Tryd.prog 20 #[.pointer (some ⟨g, 0, none⟩), .int .i64 a1] w fun e w' => e = .returned (.agg #[.int .i64 r1, .int .i64 r2]) ∧ IsS70 w0 w' g s0_0 r3 ∧ Below w0.heap.size w0 w' ∧ KeepBut w w' g none := by
 have hu24 := Tryd.underlying24
 have HI0 := Aside0.mk hI
 have HK := Aside0.mk (KeepBut.refl w g none)
 have HL := Aside0.mk hB.size
 clear hI
 have HW0 := Aside0.mk hB.size
 have HB := Aside0.mk hB
 clear hB
 have H : ((some (([4, 10, 50, 1000] : List Int) : List Int)).bind fun y143 => ((spec_l20Rd_pick.f k s0_0 s0_1 4).bind fun bt146 => (if 0 ≤ bt146.1 then (if bt146.1 < (y143.length : Int) then ((spec_l20Rd_pick.f k s0_0 bt146.2 (rd y143 bt146.1)).bind fun bt149 => ((spec_l20Rd_pick.f k s0_0 bt149.2 (rd y143 bt146.1)).bind fun bt151 => ((spec_l20Rd_pick.f k s0_0 bt151.2 (rd y143 bt146.1)).bind fun bt153 => ((spec_LowestOf.f k (wrap64 (bt149.1 - bt151.1)) bt153.1).bind fun bt155 => (if bt155.2.2 = true then (spec_l20Fraction.j0 k a1 s0_0 bt153.2 bt155.1 bt155.2.1) else (spec_l20Fraction.j0 k a1 s0_0 bt153.2 1 0)))))) else (none)) else (none)))) = some (r1, r2, r3) := h
 clear h
 obtain ⟨y143, hy143⟩ : ∃ y_ : List Int, y_ = (([4, 10, 50, 1000] : List Int)) := ⟨_, rfl⟩
 replace H : ((spec_l20Rd_pick.f k s0_0 s0_1 4).bind fun bt146 => (if 0 ≤ bt146.1 then (if bt146.1 < (y143.length : Int) then ((spec_l20Rd_pick.f k s0_0 bt146.2 (rd y143 bt146.1)).bind fun bt149 => ((spec_l20Rd_pick.f k s0_0 bt149.2 (rd y143 bt146.1)).bind fun bt151 => ((spec_l20Rd_pick.f k s0_0 bt151.2 (rd y143 bt146.1)).bind fun bt153 => ((spec_LowestOf.f k (wrap64 (bt149.1 - bt151.1)) bt153.1).bind fun bt155 => (if bt155.2.2 = true then (spec_l20Fraction.j0 k a1 s0_0 bt153.2 bt155.1 bt155.2.1) else (spec_l20Fraction.j0 k a1 s0_0 bt153.2 1 0)))))) else (none)) else (none))) = some (r1, r2, r3) := by first | (rw [hy143]; with_reducible exact H) | (have H2_ := (Option.bind_some _ _).symm.trans H; rw [hy143]; with_reducible exact H2_) | (have H2_ := (Option.bind_some _ _).symm.trans H; with_reducible exact H2_) | with_reducible exact H | (rw [hy143]; exact H) | exact H
 have Ny143 := Aside0.mk hy143
 clear hy143
 replace H := Option.bind_eq_some_iff.mp H
 obtain ⟨⟨t146, t147⟩, A30, H⟩ := H
 replace H : (if 0 ≤ t146 then (if t146 < (y143.length : Int) then ((spec_l20Rd_pick.f k s0_0 t147 (rd y143 t146)).bind fun bt149 => ((spec_l20Rd_pick.f k s0_0 bt149.2 (rd y143 t146)).bind fun bt151 => ((spec_l20Rd_pick.f k s0_0 bt151.2 (rd y143 t146)).bind fun bt153 => ((spec_LowestOf.f k (wrap64 (bt149.1 - bt151.1)) bt153.1).bind fun bt155 => (if bt155.2.2 = true then (spec_l20Fraction.j0 k a1 s0_0 bt153.2 bt155.1 bt155.2.1) else (spec_l20Fraction.j0 k a1 s0_0 bt153.2 1 0)))))) else (none)) else (none)) = some (r1, r2, r3) := H
 have A3 := Aside0.mk A30
 clear A30
 by_cases c4 : 0 ≤ t146
 ·
  rw [if_pos c4] at H
  have c4b0 : decide (0 ≤ t146) = true := decide_eq_true c4
  clear c4
  by_cases c5 : t146 < (y143.length : Int)
  ·
   rw [if_pos c5] at H
   have c5b0 : decide (t146 < (y143.length : Int)) = true := decide_eq_true c5
   clear c5
   replace H := Option.bind_eq_some_iff.mp H
   obtain ⟨⟨t149, t150⟩, A60, H⟩ := H
   replace H : ((spec_l20Rd_pick.f k s0_0 t150 (rd y143 t146)).bind fun bt151 => ((spec_l20Rd_pick.f k s0_0 bt151.2 (rd y143 t146)).bind fun bt153 => ((spec_LowestOf.f k (wrap64 (t149 - bt151.1)) bt153.1).bind fun bt155 => (if bt155.2.2 = true then (spec_l20Fraction.j0 k a1 s0_0 bt153.2 bt155.1 bt155.2.1) else (spec_l20Fraction.j0 k a1 s0_0 bt153.2 1 0))))) = some (r1, r2, r3) := H
   have A6 := Aside0.mk A60
   clear A60
   replace H := Option.bind_eq_some_iff.mp H
   obtain ⟨⟨t151, t152⟩, A70, H⟩ := H
   replace H : ((spec_l20Rd_pick.f k s0_0 t152 (rd y143 t146)).bind fun bt153 => ((spec_LowestOf.f k (wrap64 (t149 - t151)) bt153.1).bind fun bt155 => (if bt155.2.2 = true then (spec_l20Fraction.j0 k a1 s0_0 bt153.2 bt155.1 bt155.2.1) else (spec_l20Fraction.j0 k a1 s0_0 bt153.2 1 0)))) = some (r1, r2, r3) := H
   have A7 := Aside0.mk A70
   clear A70
   replace H := Option.bind_eq_some_iff.mp H
   obtain ⟨⟨t153, t154⟩, A80, H⟩ := H
   replace H : ((spec_LowestOf.f k (wrap64 (t149 - t151)) t153).bind fun bt155 => (if bt155.2.2 = true then (spec_l20Fraction.j0 k a1 s0_0 t154 bt155.1 bt155.2.1) else (spec_l20Fraction.j0 k a1 s0_0 t154 1 0))) = some (r1, r2, r3) := H
   have A8 := Aside0.mk A80
   clear A80
   replace H := Option.bind_eq_some_iff.mp H
   obtain ⟨⟨t155, t156, t157⟩, A90, H⟩ := H
   replace H : (if t157 = true then (spec_l20Fraction.j0 k a1 s0_0 t154 t155 t156) else (spec_l20Fraction.j0 k a1 s0_0 t154 1 0)) = some (r1, r2, r3) := H
   have A9 := Aside0.mk A90
   clear A90
   have HC10 := Aside0.mk H
   clear H
   go_enter Tryd.func20, Tryd.ntmps20
   go_upto_if 28 with (first | ((with_reducible refine gate_dst (N := 4) rfl ?_); refine box_event ?hg (N := 4) ?hd (cs := #[.int .i64 0, .int .i64 0]) (t := 24) ?hr ?_; (case hd => rfl); (case hg => rfl); (case hr => first | (go_simp; done) | (go_simp; rfl)); intro gb142 hg w11 hbox hb; have n0_ := Aside0.mk (IsS70.below (by repeat (first | (with_reducible first | exact HI0.out | apply IsS70.alloc | apply IsS70.drewN | apply IsS70.drew | apply IsS70.set_1) | exact HI0.out)) hb); have n1_ := Aside0.mk (KeepBut.trans (by repeat (first | (with_reducible first | exact HK.out | apply KeepBut.set_ | apply keep_drewN | apply keep_drew | apply keep_alloc) | exact HK.out)) (KeepBut.of_below hb g none) (.inl rfl)); have n2_ := Aside0.mk (below_step (by repeat (first | (with_reducible first | exact HB.out | apply below_alloc | apply pw_below_drewN | apply below_drew1 | refine below_set ?_ (IsS70.ge HI0.out)) | exact HB.out)) hb); have n3_ := Aside0.mk (hbox); have n4_ := Aside0.mk ((by rw [hg]; exact (keep_size (w := w) (g := g) (row := none) (by repeat (first | (with_reducible first | exact HK.out | apply KeepBut.set_ | apply keep_drewN | apply keep_drew | apply keep_alloc) | exact HK.out))) : w.heap.size ≤ gb142)); have n5_ := Aside0.mk ((Nat.le_trans HW0.out (by rw [hg]; exact (keep_size (w := w) (g := g) (row := none) (by repeat (first | (with_reducible first | exact HK.out | apply KeepBut.set_ | apply keep_drewN | apply keep_drew | apply keep_alloc) | exact HK.out))) : w.heap.size ≤ gb142) : w0.heap.size ≤ gb142)); have n6_ := Aside0.mk ((by rw [hg]; exact Nat.ne_of_lt (IsS70.lt (show IsS70 w0 _ g s0_0 s0_1 from by repeat (first | (with_reducible first | exact HI0.out | apply IsS70.alloc | apply IsS70.drewN | apply IsS70.drew | apply IsS70.set_1) | exact HI0.out))) : g ≠ gb142)); have n7_ := Aside0.mk ((by rw [hg]; exact Nat.ne_of_gt (IsS70.lt (show IsS70 w0 _ g s0_0 s0_1 from by repeat (first | (with_reducible first | exact HI0.out | apply IsS70.alloc | apply IsS70.drewN | apply IsS70.drew | apply IsS70.set_1) | exact HI0.out))) : gb142 ≠ g)); clear HI0; clear HK; clear HB; have HI0 := n0_; have HK := n1_; have HB := n2_; have BK142 := n3_; have GW142 := n4_; have GE142 := n5_; have NB0_142 := n6_; have NB142_0 := n7_; clear n0_ n1_ n2_ n3_ n4_ n5_ n6_ n7_; clear hb hbox hg) | ((with_reducible refine gate_dst (N := 8) rfl ?_); refine Kd.R_lit (Kd.int .i64) _ 3 ?hg (N := 8) ?hd (xs := ([4, 10, 50, 1000] : List Int)) (inner := [.int .i64 4, .int .i64 10, .int .i64 50, .int .i64 1000]) (ok := fun _ => True) (okp := fun _ => True) ?hr ?hp (fun _ hk => hk) trivial (Below.refl _ _) (Nat.le_refl _) (by simp) ?_; (case hd => rfl); (case hg => rfl); (case hr => first | (go_simp; done) | (go_simp; rfl)); (case hp => exact (Reps.one (show Kd.M (Kd.int .i64) _ _ _ 4 [.int .i64 4] from rfl) (Reps.one (show Kd.M (Kd.int .i64) _ _ _ 10 [.int .i64 10] from rfl) (Reps.one (show Kd.M (Kd.int .i64) _ _ _ 50 [.int .i64 50] from rfl) (Reps.one (show Kd.M (Kd.int .i64) _ _ _ 1000 [.int .i64 1000] from rfl) (Reps.none _ _)))))); intro v144 w12 ho13 hb hg_ hnew_; clear hg_ hnew_; (first | rw [← Ny143.out] at ho13 | (simp only [Int.reduceToNat] at ho13; rw [← Ny143.out] at ho13)); have n0_ := Aside0.mk (Kd.R_lower ho13 (keep_size (w := w) (g := g) (row := none) (by repeat (first | (with_reducible first | exact HK.out | apply KeepBut.set_ | apply keep_drewN | apply keep_drew | apply keep_alloc | refine keep_far ?_ GW142.out _) | exact HK.out)))); have n1_ := Aside0.mk (IsS70.below (by repeat (first | (with_reducible first | exact HI0.out | apply IsS70.alloc | apply IsS70.drewN | apply IsS70.drew | apply IsS70.set_1 | refine IsS70.far ?_ NB0_142.out _) | exact HI0.out)) hb); have n2_ := Aside0.mk (blk_below (g := gb142) (o := .cells #[.int .i64 0, .int .i64 0] 24 (0, 0)) (kbq5 BK142.out) hb); have n3_ := Aside0.mk (KeepBut.trans (by repeat (first | (with_reducible first | exact HK.out | apply KeepBut.set_ | apply keep_drewN | apply keep_drew | apply keep_alloc | refine keep_far ?_ GW142.out _) | exact HK.out)) (KeepBut.of_below hb g none) (.inl rfl)); have n4_ := Aside0.mk (below_step (by repeat (first | (with_reducible first | exact HB.out | apply below_alloc | apply pw_below_drewN | apply below_drew1 | refine below_set ?_ (IsS70.ge HI0.out) | refine below_set ?_ GE142.out) | exact HB.out)) hb); clear HI0; clear BK142; clear HK; clear HB; have HO145 := n0_; have HI0 := n1_; have BK142 := n2_; have HK := n3_; have HB := n4_; clear n0_ n1_ n2_ n3_ n4_; clear hb ho13) | ((with_reducible refine gate_callee (f := 28) rfl ?_); refine goesL_ (some 10) rfl rfl Tryd.func28 (by kernel_rfl) rfl #[.pointer (some ⟨g, 0, none⟩), .int .i64 4] rfl (by (try simp only [List.map_toArray, List.map_cons, List.map_nil]); first | done | rfl | (simp only [List.length_drop, List.length_take]; rfl)) ?_; (with_reducible refine (spec_l20Rd_pick.calls k g s0_0 s0_1 4 t146 t147 w0 _ ?side1 ?side2 A3.out).mono ?_); (case side1 => repeat (first | (with_reducible first | exact HI0.out | apply IsS70.alloc | apply IsS70.drewN | apply IsS70.drew | apply IsS70.set_1 | refine IsS70.far ?_ NB0_142.out _) | exact HI0.out)); (case side2 => repeat (first | (with_reducible first | exact HB.out | apply below_alloc | apply pw_below_drewN | apply below_drew1 | refine below_set ?_ (IsS70.ge HI0.out) | refine below_set ?_ GE142.out) | exact HB.out)); rintro e w14 ⟨rfl, hi, hb, hk⟩; refine ⟨_, rfl, ?_⟩; have n0_ := Aside0.mk (KeepBut.blk hk (g' := gb142) (o := .cells #[.int .i64 0, .int .i64 0] 24 (0, 0)) (kbq5 BK142.out) NB142_0.out (by simp)); have n1_ := Aside0.mk (Kd.R_mono (Kd.R_keep (IsS70.apart (show IsS70 w0 _ g s0_0 s0_1 from by repeat (first | (with_reducible first | exact HI0.out | apply IsS70.alloc | apply IsS70.drewN | apply IsS70.drew | apply IsS70.set_1 | refine IsS70.far ?_ NB0_142.out _) | exact HI0.out)) (krq5 HO145.out) (by decide)) hk (fun _ h => h.2)) (fun _ h => h.1)); have n2_ := Aside0.mk (KeepBut.trans (by repeat (first | (with_reducible first | exact HK.out | apply KeepBut.set_ | apply keep_drewN | apply keep_drew | apply keep_alloc | refine keep_far ?_ GW142.out _) | exact HK.out)) hk (.inl rfl)); have n3_ := Aside0.mk (hb); have n4_ := Aside0.mk (hi); clear BK142; clear HO145; clear HK; clear HB; clear HI0; have BK142 := n0_; have HO145 := n1_; have HK := n2_; have HB := n3_; have HI0 := n4_; clear n0_ n1_ n2_ n3_ n4_; (try clear hb); (try clear hb2); (try clear hk); (try clear hi); obtain ⟨Ao15, co15, eo15⟩ := Kd.R_slice HO145.out; subst eo15; have p148 : 0 ≤ (t146 : Int) := of_decide_eq_true (by first | (with_reducible assumption) | assumption); have q148 : t146 < (y143.length : Int) := of_decide_eq_true (by first | (with_reducible assumption) | assumption); obtain ⟨ad148, e148, hx148_0⟩ := Kd.at_int (Kd.R_reads' HO145.out).2.2 t146 p148 q148; cases e148; replace p148 := eq_true p148; replace q148 := eq_true q148) | ((with_reducible refine gate_callee (f := 28) rfl ?_); refine goesL_ (some 16) rfl rfl Tryd.func28 (by kernel_rfl) rfl #[.pointer (some ⟨g, 0, none⟩), .int .i64 (rd y143 t146)] rfl (by (try simp only [List.map_toArray, List.map_cons, List.map_nil]); first | done | rfl | (simp only [List.length_drop, List.length_take]; rfl)) ?_; (with_reducible refine (spec_l20Rd_pick.calls k g s0_0 t147 (rd y143 t146) t149 t150 w0 _ ?side1 ?side2 A6.out).mono ?_); (case side1 => repeat (first | (with_reducible first | exact HI0.out | apply IsS70.alloc | apply IsS70.drewN | apply IsS70.drew | apply IsS70.set_1 | refine IsS70.far ?_ NB0_142.out _) | exact HI0.out)); (case side2 => repeat (first | (with_reducible first | exact HB.out | apply below_alloc | apply pw_below_drewN | apply below_drew1 | refine below_set ?_ (IsS70.ge HI0.out) | refine below_set ?_ GE142.out) | exact HB.out)); rintro e w16 ⟨rfl, hi, hb, hk⟩; refine ⟨_, rfl, ?_⟩; have n0_ := Aside0.mk (KeepBut.blk hk (g' := gb142) (o := .cells #[.int .i64 0, .int .i64 0] 24 (0, 0)) (kbq5 BK142.out) NB142_0.out (by simp)); have n1_ := Aside0.mk (Kd.R_mono (Kd.R_keep (IsS70.apart (show IsS70 w0 _ g s0_0 t147 from by repeat (first | (with_reducible first | exact HI0.out | apply IsS70.alloc | apply IsS70.drewN | apply IsS70.drew | apply IsS70.set_1 | refine IsS70.far ?_ NB0_142.out _) | exact HI0.out)) (krq5 HO145.out) (by decide)) hk (fun _ h => h.2)) (fun _ h => h.1)); have n2_ := Aside0.mk (KeepBut.trans (by repeat (first | (with_reducible first | exact HK.out | apply KeepBut.set_ | apply keep_drewN | apply keep_drew | apply keep_alloc | refine keep_far ?_ GW142.out _) | exact HK.out)) hk (.inl rfl)); have n3_ := Aside0.mk (hb); have n4_ := Aside0.mk (hi); clear BK142; clear HO145; clear HK; clear HB; clear HI0; have BK142 := n0_; have HO145 := n1_; have HK := n2_; have HB := n3_; have HI0 := n4_; clear n0_ n1_ n2_ n3_ n4_; (try clear hb); (try clear hb2); (try clear hk); (try clear hi)) | ((with_reducible refine gate_callee (f := 28) rfl ?_); refine goesL_ (some 19) rfl rfl Tryd.func28 (by kernel_rfl) rfl #[.pointer (some ⟨g, 0, none⟩), .int .i64 (rd y143 t146)] rfl (by (try simp only [List.map_toArray, List.map_cons, List.map_nil]); first | done | rfl | (simp only [List.length_drop, List.length_take]; rfl)) ?_; (with_reducible refine (spec_l20Rd_pick.calls k g s0_0 t150 (rd y143 t146) t151 t152 w0 _ ?side1 ?side2 A7.out).mono ?_); (case side1 => repeat (first | (with_reducible first | exact HI0.out | apply IsS70.alloc | apply IsS70.drewN | apply IsS70.drew | apply IsS70.set_1 | refine IsS70.far ?_ NB0_142.out _) | exact HI0.out)); (case side2 => repeat (first | (with_reducible first | exact HB.out | apply below_alloc | apply pw_below_drewN | apply below_drew1 | refine below_set ?_ (IsS70.ge HI0.out) | refine below_set ?_ GE142.out) | exact HB.out)); rintro e w17 ⟨rfl, hi, hb, hk⟩; refine ⟨_, rfl, ?_⟩; have n0_ := Aside0.mk (KeepBut.blk hk (g' := gb142) (o := .cells #[.int .i64 0, .int .i64 0] 24 (0, 0)) (kbq5 BK142.out) NB142_0.out (by simp)); have n1_ := Aside0.mk (Kd.R_mono (Kd.R_keep (IsS70.apart (show IsS70 w0 _ g s0_0 t150 from by repeat (first | (with_reducible first | exact HI0.out | apply IsS70.alloc | apply IsS70.drewN | apply IsS70.drew | apply IsS70.set_1 | refine IsS70.far ?_ NB0_142.out _) | exact HI0.out)) (krq5 HO145.out) (by decide)) hk (fun _ h => h.2)) (fun _ h => h.1)); have n2_ := Aside0.mk (KeepBut.trans (by repeat (first | (with_reducible first | exact HK.out | apply KeepBut.set_ | apply keep_drewN | apply keep_drew | apply keep_alloc | refine keep_far ?_ GW142.out _) | exact HK.out)) hk (.inl rfl)); have n3_ := Aside0.mk (hb); have n4_ := Aside0.mk (hi); clear BK142; clear HO145; clear HK; clear HB; clear HI0; have BK142 := n0_; have HO145 := n1_; have HK := n2_; have HB := n3_; have HI0 := n4_; clear n0_ n1_ n2_ n3_ n4_; (try clear hb); (try clear hb2); (try clear hk); (try clear hi)) | ((with_reducible refine gate_callee (f := 28) rfl ?_); refine goesL_ (some 23) rfl rfl Tryd.func28 (by kernel_rfl) rfl #[.pointer (some ⟨g, 0, none⟩), .int .i64 (rd y143 t146)] rfl (by (try simp only [List.map_toArray, List.map_cons, List.map_nil]); first | done | rfl | (simp only [List.length_drop, List.length_take]; rfl)) ?_; (with_reducible refine (spec_l20Rd_pick.calls k g s0_0 t152 (rd y143 t146) t153 t154 w0 _ ?side1 ?side2 A8.out).mono ?_); (case side1 => repeat (first | (with_reducible first | exact HI0.out | apply IsS70.alloc | apply IsS70.drewN | apply IsS70.drew | apply IsS70.set_1 | refine IsS70.far ?_ NB0_142.out _) | exact HI0.out)); (case side2 => repeat (first | (with_reducible first | exact HB.out | apply below_alloc | apply pw_below_drewN | apply below_drew1 | refine below_set ?_ (IsS70.ge HI0.out) | refine below_set ?_ GE142.out) | exact HB.out)); rintro e w18 ⟨rfl, hi, hb, hk⟩; refine ⟨_, rfl, ?_⟩; have n0_ := Aside0.mk (KeepBut.blk hk (g' := gb142) (o := .cells #[.int .i64 0, .int .i64 0] 24 (0, 0)) (kbq5 BK142.out) NB142_0.out (by simp)); have n1_ := Aside0.mk (Kd.R_mono (Kd.R_keep (IsS70.apart (show IsS70 w0 _ g s0_0 t152 from by repeat (first | (with_reducible first | exact HI0.out | apply IsS70.alloc | apply IsS70.drewN | apply IsS70.drew | apply IsS70.set_1 | refine IsS70.far ?_ NB0_142.out _) | exact HI0.out)) (krq5 HO145.out) (by decide)) hk (fun _ h => h.2)) (fun _ h => h.1)); have n2_ := Aside0.mk (KeepBut.trans (by repeat (first | (with_reducible first | exact HK.out | apply KeepBut.set_ | apply keep_drewN | apply keep_drew | apply keep_alloc | refine keep_far ?_ GW142.out _) | exact HK.out)) hk (.inl rfl)); have n3_ := Aside0.mk (hb); have n4_ := Aside0.mk (hi); clear BK142; clear HO145; clear HK; clear HB; clear HI0; have BK142 := n0_; have HO145 := n1_; have HK := n2_; have HB := n3_; have HI0 := n4_; clear n0_ n1_ n2_ n3_ n4_; (try clear hb); (try clear hb2); (try clear hk); (try clear hi)) | ((with_reducible refine gate_callee (f := 48) rfl ?_); refine goesL_ (some 24) rfl rfl Tryd.func48 (by kernel_rfl) rfl #[.int .i64 (wrap64 (t149 - t151)), .int .i64 t153] rfl (by (try simp only [List.map_toArray, List.map_cons, List.map_nil]); first | done | rfl | (simp only [List.length_drop, List.length_take]; rfl)) ?_; (with_reducible refine (spec_LowestOf.calls k (wrap64 (t149 - t151)) t153 t155 t156 t157 _ A9.out).mono ?_); rintro e w19 ⟨rfl, hb⟩; refine ⟨_, rfl, ?_⟩; have n0_ := Aside0.mk (Kd.R_below (krq5 HO145.out) hb); have n1_ := Aside0.mk (IsS70.below (by repeat (first | (with_reducible first | exact HI0.out | apply IsS70.alloc | apply IsS70.drewN | apply IsS70.drew | apply IsS70.set_1 | refine IsS70.far ?_ NB0_142.out _) | exact HI0.out)) hb); have n2_ := Aside0.mk (blk_below (g := gb142) (o := .cells #[.int .i64 0, .int .i64 0] 24 (0, 0)) (kbq5 BK142.out) hb); have n3_ := Aside0.mk (KeepBut.trans (by repeat (first | (with_reducible first | exact HK.out | apply KeepBut.set_ | apply keep_drewN | apply keep_drew | apply keep_alloc | refine keep_far ?_ GW142.out _) | exact HK.out)) (KeepBut.of_below hb g none) (.inl rfl)); have n4_ := Aside0.mk (below_step (by repeat (first | (with_reducible first | exact HB.out | apply below_alloc | apply pw_below_drewN | apply below_drew1 | refine below_set ?_ (IsS70.ge HI0.out) | refine below_set ?_ GE142.out) | exact HB.out)) hb); clear HO145; clear HI0; clear BK142; clear HK; clear HB; have HO145 := n0_; have HI0 := n1_; have BK142 := n2_; have HK := n3_; have HB := n4_; clear n0_ n1_ n2_ n3_ n4_; (try clear hb); (try clear hb2); (try clear hk); (try clear hi)) | ((with_reducible refine gate_dst (N := 6) rfl ?_); refine box_event ?hg (N := 6) ?hd (cs := #[.int .i64 0, .int .i64 0]) (t := 24) ?hr ?_; (case hd => rfl); (case hg => rfl); (case hr => first | (go_simp; done) | (go_simp; rfl)); intro gb158 hg w20 hbox hb; have n0_ := Aside0.mk (Kd.R_below (krq5 HO145.out) hb); have n1_ := Aside0.mk (IsS70.below (by repeat (first | (with_reducible first | exact HI0.out | apply IsS70.alloc | apply IsS70.drewN | apply IsS70.drew | apply IsS70.set_1 | refine IsS70.far ?_ NB0_142.out _) | exact HI0.out)) hb); have n2_ := Aside0.mk (blk_below (g := gb142) (o := .cells #[.int .i64 0, .int .i64 0] 24 (0, 0)) (kbq5 BK142.out) hb); have n3_ := Aside0.mk (KeepBut.trans (by repeat (first | (with_reducible first | exact HK.out | apply KeepBut.set_ | apply keep_drewN | apply keep_drew | apply keep_alloc | refine keep_far ?_ GW142.out _) | exact HK.out)) (KeepBut.of_below hb g none) (.inl rfl)); have n4_ := Aside0.mk (below_step (by repeat (first | (with_reducible first | exact HB.out | apply below_alloc | apply pw_below_drewN | apply below_drew1 | refine below_set ?_ (IsS70.ge HI0.out) | refine below_set ?_ GE142.out) | exact HB.out)) hb); have n5_ := Aside0.mk (hbox); have n6_ := Aside0.mk ((by rw [hg]; exact (keep_size (w := w) (g := g) (row := none) (by repeat (first | (with_reducible first | exact HK.out | apply KeepBut.set_ | apply keep_drewN | apply keep_drew | apply keep_alloc | refine keep_far ?_ GW142.out _) | exact HK.out))) : w.heap.size ≤ gb158)); have n7_ := Aside0.mk ((Nat.le_trans HW0.out (by rw [hg]; exact (keep_size (w := w) (g := g) (row := none) (by repeat (first | (with_reducible first | exact HK.out | apply KeepBut.set_ | apply keep_drewN | apply keep_drew | apply keep_alloc | refine keep_far ?_ GW142.out _) | exact HK.out))) : w.heap.size ≤ gb158) : w0.heap.size ≤ gb158)); have n8_ := Aside0.mk ((by rw [hg]; exact Nat.ne_of_lt (blk_lt (g := gb142) (o := .cells #[.int .i64 0, .int .i64 0] 24 (0, 0)) (kbq5 BK142.out)) : gb142 ≠ gb158)); have n9_ := Aside0.mk ((by rw [hg]; exact Nat.ne_of_gt (blk_lt (g := gb142) (o := .cells #[.int .i64 0, .int .i64 0] 24 (0, 0)) (kbq5 BK142.out)) : gb158 ≠ gb142)); have n10_ := Aside0.mk ((by rw [hg]; exact Nat.ne_of_lt (IsS70.lt (show IsS70 w0 _ g s0_0 t154 from by repeat (first | (with_reducible first | exact HI0.out | apply IsS70.alloc | apply IsS70.drewN | apply IsS70.drew | apply IsS70.set_1 | refine IsS70.far ?_ NB0_142.out _) | exact HI0.out))) : g ≠ gb158)); have n11_ := Aside0.mk ((by rw [hg]; exact Nat.ne_of_gt (IsS70.lt (show IsS70 w0 _ g s0_0 t154 from by repeat (first | (with_reducible first | exact HI0.out | apply IsS70.alloc | apply IsS70.drewN | apply IsS70.drew | apply IsS70.set_1 | refine IsS70.far ?_ NB0_142.out _) | exact HI0.out))) : gb158 ≠ g)); clear HO145; clear HI0; clear BK142; clear HK; clear HB; have HO145 := n0_; have HI0 := n1_; have BK142 := n2_; have HK := n3_; have HB := n4_; have BK158 := n5_; have GW158 := n6_; have GE158 := n7_; have NB142_158 := n8_; have NB158_142 := n9_; have NB0_158 := n10_; have NB158_0 := n11_; clear n0_ n1_ n2_ n3_ n4_ n5_ n6_ n7_ n8_ n9_ n10_ n11_; clear hb hbox hg; have hnb21 := NB158_142.out; have hnc21 := NB142_158.out; have hnb22 := NB158_0.out; have hnc22 := NB0_158.out; have hcz23_0 : w20.cell? ⟨gb158, 0, none⟩ = some (.int .i64 0) := (blk_cell BK158.out 0).trans rfl; have hcz23_1 : w20.cell? ⟨gb158, 1, none⟩ = some (.int .i64 0) := (blk_cell BK158.out 1).trans rfl; have hfz23_0 := blk_frozen BK158.out 0; have hfz23_1 := blk_frozen BK158.out 1))
   (try simp only [Act.put, List.setIfInBounds_toArray, List.set_cons_zero, List.set_cons_succ])
   go_cut [] (fun wc => ∃ (kq : Nat) (x159000_9 : Int) (x159001_9 : Int), Aside0 (spec_l20Fraction.j0 kq a1 s0_0 t154 x159000_9 x159001_9 = some (r1, r2, r3)) ∧ Aside0 (kq ≤ k) ∧ Aside0 (wc.heap[gb142]? = some (.cells #[.int .i64 0, .int .i64 0] 24 (0, 0))) ∧ Aside0 (wc.heap[gb158]? = some (.cells #[.int .i64 x159000_9, .int .i64 x159001_9] 24 (0, 0))) ∧ Aside0 (IsS70 w0 wc g s0_0 t154) ∧ Aside0 (KeepBut w wc g none) ∧ Aside0 (Below w0.heap.size w0 wc))
   case first =>
    have H := HC10.out
    clear HC10
    by_cases c24 : t157 = true
    ·
     subst c24
     have H1 : (spec_l20Fraction.j0 k a1 s0_0 t154 t155 t156) = some (r1, r2, r3) := by rw [if_pos rfl] at H; exact H
     clear H
     have H := H1
     clear H1
     have H' := Aside0.mk H
     clear H
     go_wp2
     go_meet
     case rel => exact ⟨_, (t155), (t156), H', ⟨by first | omega | exact Nat.le_refl _⟩, ⟨kf1q5 BK142.out NB142_158.out⟩, ⟨by (with_reducible repeat (first | refine blk_drewN ?_ _ | refine blk_drew ?_ | refine blk_alloc ?_ _)); refine blk_put (cs := #[.int .i64 t155, .int .i64 0]) ?_ 1 _ rfl; (with_reducible repeat (first | refine blk_drewN ?_ _ | refine blk_drew ?_ | refine blk_alloc ?_ _)); refine blk_put (cs := #[.int .i64 0, .int .i64 0]) ?_ 0 _ rfl; (with_reducible repeat (first | refine blk_drewN ?_ _ | refine blk_drew ?_ | refine blk_alloc ?_ _)); exact BK158.out⟩, ⟨by repeat (first | (with_reducible first | exact HI0.out | apply IsS70.alloc | apply IsS70.drewN | apply IsS70.drew | apply IsS70.set_1 | refine IsS70.far ?_ NB0_142.out _ | refine IsS70.far ?_ NB0_158.out _) | exact HI0.out)⟩, ⟨by repeat (first | (with_reducible first | exact HK.out | apply KeepBut.set_ | apply keep_drewN | apply keep_drew | apply keep_alloc | refine keep_far ?_ GW142.out _ | refine keep_far ?_ GW158.out _) | exact HK.out)⟩, ⟨by repeat (first | (with_reducible first | exact HB.out | apply below_alloc | apply pw_below_drewN | apply below_drew1 | refine below_set ?_ (IsS70.ge HI0.out) | refine below_set ?_ GE142.out | refine below_set ?_ GE158.out) | exact HB.out)⟩⟩
    ·
     replace c24 := Bool.eq_false_iff.mpr c24
     subst c24
     have H1 : (spec_l20Fraction.j0 k a1 s0_0 t154 1 0) = some (r1, r2, r3) := by rw [if_neg (show ¬ (false = true) by decide)] at H; exact H
     clear H
     have H := H1
     clear H1
     have H' := Aside0.mk H
     clear H
     have hnb25 := NB158_142.out
     have hnc25 := NB142_158.out
     have hnb26 := NB158_0.out
     have hnc26 := NB0_158.out
     have hcz27_0 : w20.cell? ⟨gb158, 0, none⟩ = some (.int .i64 0) := (blk_cell BK158.out 0).trans rfl
     have hcz27_1 : w20.cell? ⟨gb158, 1, none⟩ = some (.int .i64 0) := (blk_cell BK158.out 1).trans rfl
     have hfz27_0 := blk_frozen BK158.out 0
     have hfz27_1 := blk_frozen BK158.out 1
     go_wp2
     go_meet
     case rel => exact ⟨_, (1), (0), H', ⟨by first | omega | exact Nat.le_refl _⟩, ⟨kf1q5 BK142.out NB142_158.out⟩, ⟨by (with_reducible repeat (first | refine blk_drewN ?_ _ | refine blk_drew ?_ | refine blk_alloc ?_ _)); refine blk_put (cs := #[.int .i64 1, .int .i64 t156]) ?_ 1 _ rfl; (with_reducible repeat (first | refine blk_drewN ?_ _ | refine blk_drew ?_ | refine blk_alloc ?_ _)); refine blk_put (cs := #[.int .i64 t155, .int .i64 t156]) ?_ 0 _ rfl; (with_reducible repeat (first | refine blk_drewN ?_ _ | refine blk_drew ?_ | refine blk_alloc ?_ _)); refine blk_put (cs := #[.int .i64 t155, .int .i64 0]) ?_ 1 _ rfl; (with_reducible repeat (first | refine blk_drewN ?_ _ | refine blk_drew ?_ | refine blk_alloc ?_ _)); refine blk_put (cs := #[.int .i64 0, .int .i64 0]) ?_ 0 _ rfl; (with_reducible repeat (first | refine blk_drewN ?_ _ | refine blk_drew ?_ | refine blk_alloc ?_ _)); exact BK158.out⟩, ⟨by repeat (first | (with_reducible first | exact HI0.out | apply IsS70.alloc | apply IsS70.drewN | apply IsS70.drew | apply IsS70.set_1 | refine IsS70.far ?_ NB0_142.out _ | refine IsS70.far ?_ NB0_158.out _) | exact HI0.out)⟩, ⟨by repeat (first | (with_reducible first | exact HK.out | apply KeepBut.set_ | apply keep_drewN | apply keep_drew | apply keep_alloc | refine keep_far ?_ GW142.out _ | refine keep_far ?_ GW158.out _) | exact HK.out)⟩, ⟨by repeat (first | (with_reducible first | exact HB.out | apply below_alloc | apply pw_below_drewN | apply below_drew1 | refine below_set ?_ (IsS70.ge HI0.out) | refine below_set ?_ GE142.out | refine below_set ?_ GE158.out) | exact HB.out)⟩⟩
   case rest =>
    clear HC10; (try clear p1); (try clear q1); (try clear hx1); (try clear c2); (try clear p2); (try clear c4); (try clear c4b0); (try clear c5); (try clear c5b0); (try clear p6); (try clear p14); (try clear q14); (try clear hx14); (try clear c20); (try clear c21); (try clear c22); (try clear c24); (try clear c25); (try clear c26); (try clear hcz23_0); (try clear hcz23_1); (try clear hcz27_0); (try clear hcz27_1); (try clear hfz23_0); (try clear hfz23_1); (try clear hfz27_0); (try clear hfz27_1); (try clear hx148_0); (try clear p148); (try clear q148)
    obtain ⟨kq, x159000_9, x159001_9, HA, HJ9, BK142, BK158, HI0, HK, HB⟩ := hcut
    cases kq with
    | zero => exact absurd HA.out (by simp [spec_l20Fraction.j0])
    | succ kj9 =>
     have H := HA.out
     clear HA
     simp only [spec_l20Fraction.j0] at H
     replace H := Option.bind_eq_some_iff.mp H
     obtain ⟨⟨t159, t160⟩, A280, H⟩ := H
     replace H : (if t159 = true then ((some (([(⟨0, 0⟩ : S24), (⟨2, 4⟩ : S24), (⟨1, (-2)⟩ : S24), (⟨(-1), 0⟩ : S24), (⟨1000001, 1⟩ : S24)] : List (S24)) : List (S24))).bind fun y161 => ((spec_l20Rd_pick.f kj9 s0_0 t160 5).bind fun bt164 => (if 0 ≤ bt164.1 then (if bt164.1 < (y161.length : Int) then (some ((rd_T24 y161 bt164.1).f0, (rd_T24 y161 bt164.1).f1, bt164.2)) else (none)) else (none)))) else (some (x159000_9, x159001_9, t160))) = some (r1, r2, r3) := H
     have A28 := Aside0.mk A280
     clear A280
     by_cases c29 : t159 = true
     ·
      subst c29
      have H1 : ((some (([(⟨0, 0⟩ : S24), (⟨2, 4⟩ : S24), (⟨1, (-2)⟩ : S24), (⟨(-1), 0⟩ : S24), (⟨1000001, 1⟩ : S24)] : List (S24)) : List (S24))).bind fun y161 => ((spec_l20Rd_pick.f kj9 s0_0 t160 5).bind fun bt164 => (if 0 ≤ bt164.1 then (if bt164.1 < (y161.length : Int) then (some ((rd_T24 y161 bt164.1).f0, (rd_T24 y161 bt164.1).f1, bt164.2)) else (none)) else (none)))) = some (r1, r2, r3) := by rw [if_pos rfl] at H; exact H
      clear H
      have H := H1
      clear H1
      obtain ⟨y161, hy161⟩ : ∃ y_ : List (S24), y_ = (([(⟨0, 0⟩ : S24), (⟨2, 4⟩ : S24), (⟨1, (-2)⟩ : S24), (⟨(-1), 0⟩ : S24), (⟨1000001, 1⟩ : S24)] : List (S24))) := ⟨_, rfl⟩
      replace H : ((spec_l20Rd_pick.f kj9 s0_0 t160 5).bind fun bt164 => (if 0 ≤ bt164.1 then (if bt164.1 < (y161.length : Int) then (some ((rd_T24 y161 bt164.1).f0, (rd_T24 y161 bt164.1).f1, bt164.2)) else (none)) else (none))) = some (r1, r2, r3) := by first | (rw [hy161]; with_reducible exact H) | (have H2_ := (Option.bind_some _ _).symm.trans H; rw [hy161]; with_reducible exact H2_) | (have H2_ := (Option.bind_some _ _).symm.trans H; with_reducible exact H2_) | with_reducible exact H | (rw [hy161]; exact H) | exact H
      have Ny161 := Aside0.mk hy161
      clear hy161
      replace H := Option.bind_eq_some_iff.mp H
      obtain ⟨⟨t164, t165⟩, A300, H⟩ := H
      replace H : (if 0 ≤ t164 then (if t164 < (y161.length : Int) then (some ((rd_T24 y161 t164).f0, (rd_T24 y161 t164).f1, t165)) else (none)) else (none)) = some (r1, r2, r3) := H
      have A30 := Aside0.mk A300
      clear A300
      by_cases c31 : 0 ≤ t164
      ·
       rw [if_pos c31] at H
       have c31b0 : decide (0 ≤ t164) = true := decide_eq_true c31
       clear c31
       by_cases c32 : t164 < (y161.length : Int)
       ·
        rw [if_pos c32] at H
        have c32b0 : decide (t164 < (y161.length : Int)) = true := decide_eq_true c32
        clear c32
        simp only [Option.some.injEq, Prod.mk.injEq] at H
        obtain ⟨rfl, rfl, rfl⟩ := H
        go_wp2_with (first | ((with_reducible refine gate_callee (f := 49) rfl ?_); refine goesL_ (some 32) rfl rfl Tryd.func49 (by kernel_rfl) rfl #[.pointer (some ⟨g, 0, none⟩), .int .i64 a1] rfl (by (try simp only [List.map_toArray, List.map_cons, List.map_nil]); first | done | rfl | (simp only [List.length_drop, List.length_take]; rfl)) ?_; (with_reducible refine (spec_l20Rd_odd.calls kj9 g s0_0 t154 a1 true t160 w0 _ ?side1 ?side2 A28.out).mono ?_); (case side1 => repeat (first | (with_reducible first | exact HI0.out | apply IsS70.alloc | apply IsS70.drewN | apply IsS70.drew | apply IsS70.set_1 | refine IsS70.far ?_ NB0_142.out _ | refine IsS70.far ?_ NB0_158.out _) | exact HI0.out)); (case side2 => repeat (first | (with_reducible first | exact HB.out | apply below_alloc | apply pw_below_drewN | apply below_drew1 | refine below_set ?_ (IsS70.ge HI0.out) | refine below_set ?_ GE142.out | refine below_set ?_ GE158.out) | exact HB.out)); rintro e w33 ⟨rfl, hi, hb, hk⟩; refine ⟨_, rfl, ?_⟩; have n0_ := Aside0.mk (KeepBut.blk hk (g' := gb142) (o := .cells #[.int .i64 0, .int .i64 0] 24 (0, 0)) (kbq5 BK142.out) NB142_0.out (by simp)); have n1_ := Aside0.mk (KeepBut.blk hk (g' := gb158) (o := .cells #[.int .i64 x159000_9, .int .i64 x159001_9] 24 (0, 0)) (kbq5 BK158.out) NB158_0.out (by simp)); have n2_ := Aside0.mk (KeepBut.trans (by repeat (first | (with_reducible first | exact HK.out | apply KeepBut.set_ | apply keep_drewN | apply keep_drew | apply keep_alloc | refine keep_far ?_ GW142.out _ | refine keep_far ?_ GW158.out _) | exact HK.out)) hk (.inl rfl)); have n3_ := Aside0.mk (hb); have n4_ := Aside0.mk (hi); clear BK142; clear BK158; clear HK; clear HB; clear HI0; have BK142 := n0_; have BK158 := n1_; have HK := n2_; have HB := n3_; have HI0 := n4_; clear n0_ n1_ n2_ n3_ n4_; (try clear hb); (try clear hb2); (try clear hk); (try clear hi)) | ((with_reducible refine gate_dst (N := 38) rfl ?_); refine Kd.R_lit k24 _ 24 ?hg (N := 38) ?hd (xs := ([(⟨0, 0⟩ : S24), (⟨2, 4⟩ : S24), (⟨1, (-2)⟩ : S24), (⟨(-1), 0⟩ : S24), (⟨1000001, 1⟩ : S24)] : List (S24))) (inner := [.int .i64 0, .int .i64 0, .int .i64 2, .int .i64 4, .int .i64 1, .int .i64 (-2), .int .i64 (-1), .int .i64 0, .int .i64 1000001, .int .i64 1]) (ok := fun _ => True) (okp := fun _ => True) ?hr ?hp (fun _ hk => hk) trivial (Below.refl _ _) (Nat.le_refl _) (by simp) ?_; (case hd => rfl); (case hg => rfl); (case hr => first | (go_simp; done) | (go_simp; rfl)); (case hp => exact (Reps.c2 (show Kd.M k24 _ _ _ (⟨0, 0⟩ : S24) [.int .i64 0, .int .i64 0] from (k24_mkM _ _ _ (⟨0, 0⟩ : S24) )) (Reps.c2 (show Kd.M k24 _ _ _ (⟨2, 4⟩ : S24) [.int .i64 2, .int .i64 4] from (k24_mkM _ _ _ (⟨2, 4⟩ : S24) )) (Reps.c2 (show Kd.M k24 _ _ _ (⟨1, (-2)⟩ : S24) [.int .i64 1, .int .i64 (-2)] from (k24_mkM _ _ _ (⟨1, (-2)⟩ : S24) )) (Reps.c2 (show Kd.M k24 _ _ _ (⟨(-1), 0⟩ : S24) [.int .i64 (-1), .int .i64 0] from (k24_mkM _ _ _ (⟨(-1), 0⟩ : S24) )) (Reps.c2 (show Kd.M k24 _ _ _ (⟨1000001, 1⟩ : S24) [.int .i64 1000001, .int .i64 1] from (k24_mkM _ _ _ (⟨1000001, 1⟩ : S24) )) (Reps.none _ _))))))); intro v162 w34 ho35 hb hg_ hnew_; clear hg_ hnew_; (first | rw [← Ny161.out] at ho35 | (simp only [Int.reduceToNat] at ho35; rw [← Ny161.out] at ho35)); have n0_ := Aside0.mk (Kd.R_lower (Kd.R_newB (Kd.R_newB ho35 (g := gb142) (o := .cells #[.int .i64 0, .int .i64 0] 24 (0, 0)) (kbq5 BK142.out)) (g := gb158) (o := .cells #[.int .i64 x159000_9, .int .i64 x159001_9] 24 (0, 0)) (kbq5 BK158.out)) (keep_size (w := w) (g := g) (row := none) (by repeat (first | (with_reducible first | exact HK.out | apply KeepBut.set_ | apply keep_drewN | apply keep_drew | apply keep_alloc | refine keep_far ?_ GW142.out _ | refine keep_far ?_ GW158.out _) | exact HK.out)))); have n1_ := Aside0.mk (blk_below (g := gb142) (o := .cells #[.int .i64 0, .int .i64 0] 24 (0, 0)) (kbq5 BK142.out) hb); have n2_ := Aside0.mk (blk_below (g := gb158) (o := .cells #[.int .i64 x159000_9, .int .i64 x159001_9] 24 (0, 0)) (kbq5 BK158.out) hb); have n3_ := Aside0.mk (IsS70.below (by repeat (first | (with_reducible first | exact HI0.out | apply IsS70.alloc | apply IsS70.drewN | apply IsS70.drew | apply IsS70.set_1 | refine IsS70.far ?_ NB0_142.out _ | refine IsS70.far ?_ NB0_158.out _) | exact HI0.out)) hb); have n4_ := Aside0.mk (KeepBut.trans (by repeat (first | (with_reducible first | exact HK.out | apply KeepBut.set_ | apply keep_drewN | apply keep_drew | apply keep_alloc | refine keep_far ?_ GW142.out _ | refine keep_far ?_ GW158.out _) | exact HK.out)) (KeepBut.of_below hb g none) (.inl rfl)); have n5_ := Aside0.mk (below_step (by repeat (first | (with_reducible first | exact HB.out | apply below_alloc | apply pw_below_drewN | apply below_drew1 | refine below_set ?_ (IsS70.ge HI0.out) | refine below_set ?_ GE142.out | refine below_set ?_ GE158.out) | exact HB.out)) hb); clear BK142; clear BK158; clear HI0; clear HK; clear HB; have HO163 := n0_; have BK142 := n1_; have BK158 := n2_; have HI0 := n3_; have HK := n4_; have HB := n5_; clear n0_ n1_ n2_ n3_ n4_ n5_; clear hb ho35) | ((with_reducible refine gate_callee (f := 28) rfl ?_); refine goesL_ (some 40) rfl rfl Tryd.func28 (by kernel_rfl) rfl #[.pointer (some ⟨g, 0, none⟩), .int .i64 5] rfl (by (try simp only [List.map_toArray, List.map_cons, List.map_nil]); first | done | rfl | (simp only [List.length_drop, List.length_take]; rfl)) ?_; (with_reducible refine (spec_l20Rd_pick.calls kj9 g s0_0 t160 5 t164 t165 w0 _ ?side1 ?side2 A30.out).mono ?_); (case side1 => repeat (first | (with_reducible first | exact HI0.out | apply IsS70.alloc | apply IsS70.drewN | apply IsS70.drew | apply IsS70.set_1 | refine IsS70.far ?_ NB0_142.out _ | refine IsS70.far ?_ NB0_158.out _) | exact HI0.out)); (case side2 => repeat (first | (with_reducible first | exact HB.out | apply below_alloc | apply pw_below_drewN | apply below_drew1 | refine below_set ?_ (IsS70.ge HI0.out) | refine below_set ?_ GE142.out | refine below_set ?_ GE158.out) | exact HB.out)); rintro e w36 ⟨rfl, hi, hb, hk⟩; refine ⟨_, rfl, ?_⟩; have n0_ := Aside0.mk (KeepBut.blk hk (g' := gb142) (o := .cells #[.int .i64 0, .int .i64 0] 24 (0, 0)) (kbq5 BK142.out) NB142_0.out (by simp)); have n1_ := Aside0.mk (KeepBut.blk hk (g' := gb158) (o := .cells #[.int .i64 x159000_9, .int .i64 x159001_9] 24 (0, 0)) (kbq5 BK158.out) NB158_0.out (by simp)); have n2_ := Aside0.mk (Kd.R_mono (Kd.R_keep (IsS70.apart (show IsS70 w0 _ g s0_0 t160 from by repeat (first | (with_reducible first | exact HI0.out | apply IsS70.alloc | apply IsS70.drewN | apply IsS70.drew | apply IsS70.set_1 | refine IsS70.far ?_ NB0_142.out _ | refine IsS70.far ?_ NB0_158.out _) | exact HI0.out)) (krq5 HO163.out) (by decide)) hk (fun _ h => h.2)) (fun _ h => h.1)); have n3_ := Aside0.mk (KeepBut.trans (by repeat (first | (with_reducible first | exact HK.out | apply KeepBut.set_ | apply keep_drewN | apply keep_drew | apply keep_alloc | refine keep_far ?_ GW142.out _ | refine keep_far ?_ GW158.out _) | exact HK.out)) hk (.inl rfl)); have n4_ := Aside0.mk (hb); have n5_ := Aside0.mk (hi); clear BK142; clear BK158; clear HO163; clear HK; clear HB; clear HI0; have BK142 := n0_; have BK158 := n1_; have HO163 := n2_; have HK := n3_; have HB := n4_; have HI0 := n5_; clear n0_ n1_ n2_ n3_ n4_ n5_; (try clear hb); (try clear hb2); (try clear hk); (try clear hi); obtain ⟨Ao37, co37, eo37⟩ := Kd.R_slice HO163.out; subst eo37; have p166 : 0 ≤ (t164 : Int) := of_decide_eq_true (by first | (with_reducible assumption) | assumption); have q166 : t164 < (y161.length : Int) := of_decide_eq_true (by first | (with_reducible assumption) | assumption); obtain ⟨ad166, e166, hx166_0, hx166_1⟩ := at_T24 (Kd.R_reads' HO163.out).2.2 t164 p166 q166; cases e166; replace p166 := eq_true p166; replace q166 := eq_true q166; have hnb38 := NB142_158.out; have hnc38 := NB158_142.out; have hnb39 := NB142_0.out; have hnc39 := NB0_142.out; have hcz40_0 : w36.cell? ⟨gb142, 0, none⟩ = some (.int .i64 0) := (blk_cell BK142.out 0).trans rfl; have hcz40_1 : w36.cell? ⟨gb142, 1, none⟩ = some (.int .i64 0) := (blk_cell BK142.out 1).trans rfl; have hfz40_0 := blk_frozen BK142.out 0; have hfz40_1 := blk_frozen BK142.out 1))
        refine bodyPost_ret (results_cell_row rfl _ _ gb142 24 #[.int .i64 ((rd_T24 y161 t164).f0), .int .i64 ((rd_T24 y161 t164).f1)] (0, 0) _ rfl (by (with_reducible repeat (first | refine blk_drewN ?_ _ | refine blk_drew ?_ | refine blk_alloc ?_ _)); refine blk_put (cs := #[.int .i64 ((rd_T24 y161 t164).f0), .int .i64 0]) ?_ 1 _ rfl; (with_reducible repeat (first | refine blk_drewN ?_ _ | refine blk_drew ?_ | refine blk_alloc ?_ _)); refine blk_put (cs := #[.int .i64 0, .int .i64 0]) ?_ 0 _ rfl; (with_reducible repeat (first | refine blk_drewN ?_ _ | refine blk_drew ?_ | refine blk_alloc ?_ _)); exact BK142.out) Tryd.underlying24 rfl (by kernel_rfl)) rfl ?_
        exact ⟨by first | rfl | (simp [errW_none, errW_some] <;> rfl) | (simp [*, errW_none, errW_some] <;> rfl), by repeat (first | (with_reducible first | exact HI0.out | apply IsS70.alloc | apply IsS70.drewN | apply IsS70.drew | apply IsS70.set_1 | refine IsS70.far ?_ NB0_142.out _ | refine IsS70.far ?_ NB0_158.out _) | exact HI0.out), by repeat (first | (with_reducible first | exact HB.out | apply below_alloc | apply pw_below_drewN | apply below_drew1 | refine below_set ?_ (IsS70.ge HI0.out) | refine below_set ?_ GE142.out | refine below_set ?_ GE158.out) | exact HB.out), by repeat (first | (with_reducible first | exact HK.out | apply KeepBut.set_ | apply keep_drewN | apply keep_drew | apply keep_alloc | refine keep_far ?_ GW142.out _ | refine keep_far ?_ GW158.out _) | exact HK.out)⟩
       ·
        rw [if_neg c32] at H
        exact absurd H (by simp)
      ·
       rw [if_neg c31] at H
       exact absurd H (by simp)
     ·
      replace c29 := Bool.eq_false_iff.mpr c29
      subst c29
      have H1 : (some (x159000_9, x159001_9, t160)) = some (r1, r2, r3) := by rw [if_neg (show ¬ (false = true) by decide)] at H; exact H
      clear H
      have H := H1
      clear H1
      simp only [Option.some.injEq, Prod.mk.injEq] at H
      obtain ⟨rfl, rfl, rfl⟩ := H
      go_wp2_with (first | ((with_reducible refine gate_callee (f := 49) rfl ?_); refine goesL_ (some 32) rfl rfl Tryd.func49 (by kernel_rfl) rfl #[.pointer (some ⟨g, 0, none⟩), .int .i64 a1] rfl (by (try simp only [List.map_toArray, List.map_cons, List.map_nil]); first | done | rfl | (simp only [List.length_drop, List.length_take]; rfl)) ?_; (with_reducible refine (spec_l20Rd_odd.calls kj9 g s0_0 t154 a1 false t160 w0 _ ?side1 ?side2 A28.out).mono ?_); (case side1 => repeat (first | (with_reducible first | exact HI0.out | apply IsS70.alloc | apply IsS70.drewN | apply IsS70.drew | apply IsS70.set_1 | refine IsS70.far ?_ NB0_142.out _ | refine IsS70.far ?_ NB0_158.out _) | exact HI0.out)); (case side2 => repeat (first | (with_reducible first | exact HB.out | apply below_alloc | apply pw_below_drewN | apply below_drew1 | refine below_set ?_ (IsS70.ge HI0.out) | refine below_set ?_ GE142.out | refine below_set ?_ GE158.out) | exact HB.out)); rintro e w41 ⟨rfl, hi, hb, hk⟩; refine ⟨_, rfl, ?_⟩; have n0_ := Aside0.mk (KeepBut.blk hk (g' := gb142) (o := .cells #[.int .i64 0, .int .i64 0] 24 (0, 0)) (kbq5 BK142.out) NB142_0.out (by simp)); have n1_ := Aside0.mk (KeepBut.blk hk (g' := gb158) (o := .cells #[.int .i64 x159000_9, .int .i64 x159001_9] 24 (0, 0)) (kbq5 BK158.out) NB158_0.out (by simp)); have n2_ := Aside0.mk (KeepBut.trans (by repeat (first | (with_reducible first | exact HK.out | apply KeepBut.set_ | apply keep_drewN | apply keep_drew | apply keep_alloc | refine keep_far ?_ GW142.out _ | refine keep_far ?_ GW158.out _) | exact HK.out)) hk (.inl rfl)); have n3_ := Aside0.mk (hb); have n4_ := Aside0.mk (hi); clear BK142; clear BK158; clear HK; clear HB; clear HI0; have BK142 := n0_; have BK158 := n1_; have HK := n2_; have HB := n3_; have HI0 := n4_; clear n0_ n1_ n2_ n3_ n4_; (try clear hb); (try clear hb2); (try clear hk); (try clear hi); have hnb42 := NB158_142.out; have hnc42 := NB142_158.out; have hnb43 := NB158_0.out; have hnc43 := NB0_158.out; have hcz44_0 : w41.cell? ⟨gb158, 0, none⟩ = some (.int .i64 x159000_9) := (blk_cell BK158.out 0).trans rfl; have hcz44_1 : w41.cell? ⟨gb158, 1, none⟩ = some (.int .i64 x159001_9) := (blk_cell BK158.out 1).trans rfl; have hfz44_0 := blk_frozen BK158.out 0; have hfz44_1 := blk_frozen BK158.out 1; have hnb45 := NB142_0.out; have hnc45 := NB0_142.out; have hcz46_0 : w41.cell? ⟨gb142, 0, none⟩ = some (.int .i64 0) := (blk_cell BK142.out 0).trans rfl; have hcz46_1 : w41.cell? ⟨gb142, 1, none⟩ = some (.int .i64 0) := (blk_cell BK142.out 1).trans rfl; have hfz46_0 := blk_frozen BK142.out 0; have hfz46_1 := blk_frozen BK142.out 1))
      refine bodyPost_ret (results_cell_row rfl _ _ gb142 24 #[.int .i64 x159000_9, .int .i64 x159001_9] (0, 0) _ rfl (by (with_reducible repeat (first | refine blk_drewN ?_ _ | refine blk_drew ?_ | refine blk_alloc ?_ _)); refine blk_put (cs := #[.int .i64 x159000_9, .int .i64 0]) ?_ 1 _ rfl; (with_reducible repeat (first | refine blk_drewN ?_ _ | refine blk_drew ?_ | refine blk_alloc ?_ _)); refine blk_put (cs := #[.int .i64 0, .int .i64 0]) ?_ 0 _ rfl; (with_reducible repeat (first | refine blk_drewN ?_ _ | refine blk_drew ?_ | refine blk_alloc ?_ _)); exact BK142.out) Tryd.underlying24 rfl (by kernel_rfl)) rfl ?_
      exact ⟨by first | rfl | (simp [errW_none, errW_some] <;> rfl) | (simp [*, errW_none, errW_some] <;> rfl), by repeat (first | (with_reducible first | exact HI0.out | apply IsS70.alloc | apply IsS70.drewN | apply IsS70.drew | apply IsS70.set_1 | refine IsS70.far ?_ NB0_142.out _ | refine IsS70.far ?_ NB0_158.out _) | exact HI0.out), by repeat (first | (with_reducible first | exact HB.out | apply below_alloc | apply pw_below_drewN | apply below_drew1 | refine below_set ?_ (IsS70.ge HI0.out) | refine below_set ?_ GE142.out | refine below_set ?_ GE158.out) | exact HB.out), by repeat (first | (with_reducible first | exact HK.out | apply KeepBut.set_ | apply keep_drewN | apply keep_drew | apply keep_alloc | refine keep_far ?_ GW142.out _ | refine keep_far ?_ GW158.out _) | exact HK.out)⟩
  ·
   rw [if_neg c5] at H
   exact absurd H (by simp)
 ·
  rw [if_neg c4] at H
  exact absurd H (by simp)

/-! ### spec_l20Open: function 21 -/
def spec_l20Open.f (l0 : List Int) : Option (List Int × Int) := if (l0.length : Int) > 2000 then (if 2000 ≤ (l0.length : Int) then (some (l0.take 2000, 0)) else (none)) else (some (l0, 0))
set_option maxHeartbeats 8000000 in
set_option maxRecDepth 100000 in
theorem spec_l20Open.calls (A0 : Option Addr) (c0 : Nat) (l0 : List Int) (r1 : List Int) (r2 : Int) (w0 w : World) (hB : Below w0.heap.size w0 w) (hr0 : Kd.C (Kd.int .u8) w0 A0 l0.length l0) (hc0 : l0.length ≤ c0) (h : spec_l20Open.f l0 = some (r1, r2)) :
  Calls Tryd.prog 21 #[.slice A0 l0.length c0] w fun e w' => ∃ g_ : Nat, e = .returned (.pointer (some ⟨g_, 0, none⟩)) ∧ IsS70 w0 w' g_ r1 r2 ∧ Below w0.heap.size w0 w' ∧ Below w.heap.size w w' := by
 have hu70 := Tryd.underlying70
 have HR0 := Aside0.mk hr0
 have HC0 := Aside0.mk hc0
 clear hr0 hc0
 have HBW := Aside0.mk (Below.refl w.heap.size w)
 have HW0 := Aside0.mk hB.size
 have HB := Aside0.mk hB
 clear hB
 have H : (if (l0.length : Int) > 2000 then (if 2000 ≤ (l0.length : Int) then (some (l0.take 2000, 0)) else (none)) else (some (l0, 0))) = some (r1, r2) := h
 clear h
 by_cases c2 : (l0.length : Int) > 2000
 ·
  rw [if_pos c2] at H
  have c2b0 : decide (2000 < (l0.length : Int)) = true := decide_eq_true c2
  have c2b1 : decide (2000 < l0.length) = true := decide_eq_true (by omega)
  clear c2
  by_cases c3 : 2000 ≤ (l0.length : Int)
  ·
   rw [if_pos c3] at H
   have c3b0 := eq_true c3
   have c3b1 : decide (2000 ≤ (l0.length : Int)) = true := decide_eq_true c3
   clear c3
   simp only [Option.some.injEq, Prod.mk.injEq] at H
   obtain ⟨rfl, rfl⟩ := H
   obtain ⟨i04, hi04, _, hsz4, _⟩ := info_parts info5
   obtain ⟨hcut4, hA4, hC4⟩ := print_take_of (P := Tryd.prog) (Value.int .u8) 0 22 5 .i64 Tryd.underlying22 hi04 hsz4 A0 c0 l0 2000 (by omega) (of_decide_eq_true (by first | (with_reducible assumption) | assumption)) HC0.out
   have HR167 := Aside0.mk (Kd.C_of_reads (h1 := fun _ => rfl) (hA4 _ (Kd.reads_of_C HR0.out)))
   have HC167 := Aside0.mk hC4
   clear hA4 hC4 hi04 hsz4
   go_enter Tryd.func21, Tryd.ntmps21
   go_wp2_with (first | ((with_reducible refine gate_dst (N := 10) rfl ?_); refine box_event ?hg (N := 10) ?hd (cs := #[.slice A0 (l0.take 2000).length c0, .int .i64 0]) (t := 70) ?hr ?_; (case hd => rfl); (case hg => rfl); (case hr => first | (go_simp; done) | (go_simp; rfl)); intro gb168 hg w5 hbox hb; have n0_ := Aside0.mk (below_step HBW.out hb); have n1_ := Aside0.mk (below_step (lb0q5 HB.out) hb); have n2_ := Aside0.mk (hbox); have n3_ := Aside0.mk ((by rw [hg]; exact (below_size (by repeat (first | (with_reducible first | exact HBW.out | apply below_alloc | apply pw_below_drewN | apply below_drew1) | exact HBW.out))) : w.heap.size ≤ gb168)); have n4_ := Aside0.mk ((Nat.le_trans HW0.out (by rw [hg]; exact (below_size (by repeat (first | (with_reducible first | exact HBW.out | apply below_alloc | apply pw_below_drewN | apply below_drew1) | exact HBW.out))) : w.heap.size ≤ gb168) : w0.heap.size ≤ gb168)); clear HBW; clear HB; have HBW := n0_; have HB := n1_; have BK168 := n2_; have GW168 := n3_; have GE168 := n4_; clear n0_ n1_ n2_ n3_ n4_; clear hb hbox hg))
   go_ret
   exact ⟨_, rfl, (show IsS70 w0 _ gb168 (l0.take 2000) 0 from ⟨_, _, by (with_reducible repeat (first | refine blk_drewN ?_ _ | refine blk_drew ?_ | refine blk_alloc ?_ _)); exact BK168.out, GE168.out, HR167.out⟩), by repeat (first | (with_reducible first | exact HB.out | apply below_alloc | apply pw_below_drewN | apply below_drew1 | refine below_set ?_ GE168.out) | exact HB.out), by repeat (first | (with_reducible first | exact HBW.out | apply below_alloc | apply pw_below_drewN | apply below_drew1 | refine below_set ?_ GW168.out) | exact HBW.out)⟩
  ·
   rw [if_neg c3] at H
   exact absurd H (by simp)
 ·
  rw [if_neg c2] at H
  have c2b0 : decide (2000 < (l0.length : Int)) = false := decide_eq_false c2
  have c2b1 : decide (2000 < l0.length) = false := decide_eq_false (by omega)
  clear c2
  simp only [Option.some.injEq, Prod.mk.injEq] at H
  obtain ⟨rfl, rfl⟩ := H
  go_enter Tryd.func21, Tryd.ntmps21
  go_wp2_with (first | ((with_reducible refine gate_dst (N := 10) rfl ?_); refine box_event ?hg (N := 10) ?hd (cs := #[.slice A0 l0.length c0, .int .i64 0]) (t := 70) ?hr ?_; (case hd => rfl); (case hg => rfl); (case hr => first | (go_simp; done) | (go_simp; rfl)); intro gb169 hg w6 hbox hb; have n0_ := Aside0.mk (below_step HBW.out hb); have n1_ := Aside0.mk (below_step (lb0q5 HB.out) hb); have n2_ := Aside0.mk (hbox); have n3_ := Aside0.mk ((by rw [hg]; exact (below_size (by repeat (first | (with_reducible first | exact HBW.out | apply below_alloc | apply pw_below_drewN | apply below_drew1) | exact HBW.out))) : w.heap.size ≤ gb169)); have n4_ := Aside0.mk ((Nat.le_trans HW0.out (by rw [hg]; exact (below_size (by repeat (first | (with_reducible first | exact HBW.out | apply below_alloc | apply pw_below_drewN | apply below_drew1) | exact HBW.out))) : w.heap.size ≤ gb169) : w0.heap.size ≤ gb169)); clear HBW; clear HB; have HBW := n0_; have HB := n1_; have BK169 := n2_; have GW169 := n3_; have GE169 := n4_; clear n0_ n1_ n2_ n3_ n4_; clear hb hbox hg))
  go_ret
  exact ⟨_, rfl, (show IsS70 w0 _ gb169 l0 0 from ⟨_, _, by (with_reducible repeat (first | refine blk_drewN ?_ _ | refine blk_drew ?_ | refine blk_alloc ?_ _)); exact BK169.out, GE169.out, HR0.out⟩), by repeat (first | (with_reducible first | exact HB.out | apply below_alloc | apply pw_below_drewN | apply below_drew1 | refine below_set ?_ GE169.out) | exact HB.out), by repeat (first | (with_reducible first | exact HBW.out | apply below_alloc | apply pw_below_drewN | apply below_drew1 | refine below_set ?_ GW169.out) | exact HBW.out)⟩

/-! ### spec_DrawReadFraction: function 12 -/
def spec_DrawReadFraction.j0 : Nat → ByteArray → Bool → List Int → Int → Option (ByteArray)
  | 0, _, _, _, _ => none
  | k + 1, x4, x18, x173000, x173001 => if x18 = true then ((spec_l20Rd_pick.f k x173000 x173001 (x4.size : Int)).bind fun bt179 => (if 0 ≤ bt179.1 then (if bt179.1 ≤ (x4.size : Int) then ((some (([(⟨#[]⟩ : ByteArray), (⟨#[48]⟩ : ByteArray), (⟨#[47]⟩ : ByteArray), (⟨#[45]⟩ : ByteArray), (⟨#[52]⟩ : ByteArray)] : List ByteArray) : List ByteArray)).bind fun y181 => ((spec_l20Rd_pick.f k x173000 bt179.2 5).bind fun bt184 => (if 0 ≤ bt184.1 then (if bt184.1 < (y181.length : Int) then (if (x4.extract 0 (bt179.1 : Int).toNat).size + (rdOf ByteArray.empty y181 bt184.1).size ≤ 9223372036854775807 then (if 0 ≤ (wrap64 (bt179.1 + 1)) then (if (wrap64 (bt179.1 + 1)) ≤ (x4.size : Int) then (if ((x4.extract 0 (bt179.1 : Int).toNat) ++ (rdOf ByteArray.empty y181 bt184.1)).size + (x4.extract ((wrap64 (bt179.1 + 1)) : Int).toNat x4.size).size ≤ 9223372036854775807 then (some (((x4.extract 0 (bt179.1 : Int).toNat) ++ (rdOf ByteArray.empty y181 bt184.1)) ++ (x4.extract ((wrap64 (bt179.1 + 1)) : Int).toNat x4.size))) else (none)) else (none)) else (none)) else (none)) else (none)) else (none)))) else (none)) else (none))) else (some x4)
def spec_DrawReadFraction.f (k : Nat) (l0 : List Int) : Option (ByteArray) := (spec_l20Open.f l0).bind fun bt170 => ((spec_l20Fraction.f k bt170.1 bt170.2 0).bind fun bt173 => ((spec_FractionText.f k bt173.1 bt173.2.1).bind fun t176 => ((spec_l20Rd_pick.f k bt170.1 bt173.2.2 3).bind fun bt177 => (if bt177.1 = 0 then (spec_DrawReadFraction.j0 k t176 (decide ((t176.size : Int) > 0)) bt170.1 bt177.2) else (spec_DrawReadFraction.j0 k t176 false bt170.1 bt177.2)))))
theorem spec_DrawReadFraction.mono_l : ∀ k, (∀ y0 y1 y2 y3, LeO (spec_DrawReadFraction.j0 k y0 y1 y2 y3) (spec_DrawReadFraction.j0 (k + 1) y0 y1 y2 y3))
  | 0 => fun _ _ _ _ r h => by simp [spec_DrawReadFraction.j0] at h
  | k + 1 => by
    have ih0 := spec_DrawReadFraction.mono_l k
    · intro y0 y1 y2 y3
      unfold spec_DrawReadFraction.j0
      repeat' first
      | (with_reducible exact ih0 _ _ _ _)
      | (with_reducible exact spec_FractionText.mono _ _ _)
      | (with_reducible exact spec_l20Fraction.mono _ _ _ _)
      | (with_reducible exact spec_l20Rd_pick.mono _ _ _ _)
      | (with_reducible exact LeO.refl _)
      | (with_reducible exact LeO.none _)
      | (with_reducible refine LeO.ite ?_ ?_)
      | (with_reducible refine LeO.bind ?_ (fun _ => ?_))
      | exact ih0 _ _ _ _
      | exact spec_FractionText.mono _ _ _
      | exact spec_l20Fraction.mono _ _ _ _
      | exact spec_l20Rd_pick.mono _ _ _ _
      | exact LeO.none _
      | refine LeO.ite ?_ ?_
      | refine LeO.bind ?_ (fun _ => ?_)
theorem spec_DrawReadFraction.mono : ∀ a0 k, LeO (spec_DrawReadFraction.f k a0) (spec_DrawReadFraction.f (k + 1) a0) := by
  intro a0 k
  have ih0 := spec_DrawReadFraction.mono_l k
  unfold spec_DrawReadFraction.f
  repeat' first
      | (with_reducible exact ih0 _ _ _ _)
      | (with_reducible exact spec_FractionText.mono _ _ _)
      | (with_reducible exact spec_l20Fraction.mono _ _ _ _)
      | (with_reducible exact spec_l20Rd_pick.mono _ _ _ _)
      | (with_reducible exact LeO.refl _)
      | (with_reducible exact LeO.none _)
      | (with_reducible refine LeO.ite ?_ ?_)
      | (with_reducible refine LeO.bind ?_ (fun _ => ?_))
      | exact ih0 _ _ _ _
      | exact spec_FractionText.mono _ _ _
      | exact spec_l20Fraction.mono _ _ _ _
      | exact spec_l20Rd_pick.mono _ _ _ _
      | exact LeO.none _
      | refine LeO.ite ?_ ?_
      | refine LeO.bind ?_ (fun _ => ?_)
def spec_DrawReadFraction.T5 : Bool × List (List Nat × List Nat) := (true, [([], []), ([], []), ([0, 1], [0, 1]), ([], []), ([], []), ([4], [4]), ([3, 5], [3, 5]), ([6], [6]), ([2, 7], [2, 7]), ([], []), ([], []), ([10], [10]), ([9, 11], [9, 11]), ([8, 12], [8, 12]), ([13, 5, 0, 1, 2, 3, 4, 5, 6, 7, 8, 9, 10, 11, 12, 13], [13])])
def spec_DrawReadFraction.B5 : List Nat := [0, 0, 3, 0, 0, 16, 56, 120, 255, 0, 0, 1024, 3584, 8191, 16383]
theorem spec_DrawReadFraction.tab5 : rtab .any (opsOf Tryd.f12 5) = spec_DrawReadFraction.T5 := by kernel_rfl
theorem spec_DrawReadFraction.bits5 : waitsOk spec_DrawReadFraction.T5.2 spec_DrawReadFraction.B5 = true := by kernel_rfl
set_option maxHeartbeats 8000000 in
set_option maxRecDepth 100000 in
theorem spec_DrawReadFraction.calls (k : Nat) (A0 : Option Addr) (c0 : Nat) (l0 : List Int) (r : ByteArray) (w : World) (hr0 : Kd.C (Kd.int .u8) w A0 l0.length l0) (hc0 : l0.length ≤ c0) (h : spec_DrawReadFraction.f k l0 = some r) :
  Calls Tryd.prog 12 #[.slice A0 l0.length c0] w fun e w' => e = .returned (.string r) ∧ Below w.heap.size w w' := by
 have HR0 := Aside0.mk hr0
 have HC0 := Aside0.mk hc0
 clear hr0 hc0
 have HB := Aside0.mk (Below.refl w.heap.size w)
 have H : ((spec_l20Open.f l0).bind fun bt170 => ((spec_l20Fraction.f k bt170.1 bt170.2 0).bind fun bt173 => ((spec_FractionText.f k bt173.1 bt173.2.1).bind fun t176 => ((spec_l20Rd_pick.f k bt170.1 bt173.2.2 3).bind fun bt177 => (if bt177.1 = 0 then (spec_DrawReadFraction.j0 k t176 (decide ((t176.size : Int) > 0)) bt170.1 bt177.2) else (spec_DrawReadFraction.j0 k t176 false bt170.1 bt177.2)))))) = some r := h
 clear h
 replace H := Option.bind_eq_some_iff.mp H
 obtain ⟨⟨t170, t171⟩, A20, H⟩ := H
 replace H : ((spec_l20Fraction.f k t170 t171 0).bind fun bt173 => ((spec_FractionText.f k bt173.1 bt173.2.1).bind fun t176 => ((spec_l20Rd_pick.f k t170 bt173.2.2 3).bind fun bt177 => (if bt177.1 = 0 then (spec_DrawReadFraction.j0 k t176 (decide ((t176.size : Int) > 0)) t170 bt177.2) else (spec_DrawReadFraction.j0 k t176 false t170 bt177.2))))) = some r := H
 have A2 := Aside0.mk A20
 clear A20
 replace H := Option.bind_eq_some_iff.mp H
 obtain ⟨⟨t173, t174, t175⟩, A30, H⟩ := H
 replace H : ((spec_FractionText.f k t173 t174).bind fun t176 => ((spec_l20Rd_pick.f k t170 t175 3).bind fun bt177 => (if bt177.1 = 0 then (spec_DrawReadFraction.j0 k t176 (decide ((t176.size : Int) > 0)) t170 bt177.2) else (spec_DrawReadFraction.j0 k t176 false t170 bt177.2)))) = some r := H
 have A3 := Aside0.mk A30
 clear A30
 replace H := Option.bind_eq_some_iff.mp H
 obtain ⟨t176, A40, H⟩ := H
 replace H : ((spec_l20Rd_pick.f k t170 t175 3).bind fun bt177 => (if bt177.1 = 0 then (spec_DrawReadFraction.j0 k t176 (decide ((t176.size : Int) > 0)) t170 bt177.2) else (spec_DrawReadFraction.j0 k t176 false t170 bt177.2))) = some r := H
 have A4 := Aside0.mk A40
 clear A40
 have HC5 := Aside0.mk H
 clear H
 go_enter Tryd.func12, Tryd.ntmps12
 go_upto_region 3 with (first | ((with_reducible refine gate_callee (f := 21) rfl ?_); refine goesL_ (some 7) rfl rfl Tryd.func21 (by kernel_rfl) rfl #[.slice A0 l0.length c0] rfl (by (try simp only [List.map_toArray, List.map_cons, List.map_nil]); first | done | rfl | (simp only [List.length_drop, List.length_take]; rfl)) ?_; (with_reducible refine (spec_l20Open.calls _ _ l0 t170 t171 w _ ?side1 ?side2 ?side3 A2.out).mono ?_); (case side1 => repeat (first | (with_reducible first | exact HB.out | apply below_alloc | apply pw_below_drewN | apply below_drew1) | exact HB.out)); (case side2 => exact HR0.out); (case side3 => exact HC0.out); rintro e w6 ⟨g172, rfl, hi, hb, hb2⟩; refine ⟨_, rfl, ?_⟩; have n0_ := Aside0.mk (hb); have n1_ := Aside0.mk (hi); clear HB; have HB := n0_; have HI172 := n1_; clear n0_ n1_; (try clear hb); (try clear hb2); (try clear hk); (try clear hi)) | ((with_reducible refine gate_callee (f := 20) rfl ?_); refine goesL_ (some 9) rfl rfl Tryd.func20 (by kernel_rfl) rfl #[.pointer (some ⟨g172, 0, none⟩), .int .i64 0] rfl (by (try simp only [List.map_toArray, List.map_cons, List.map_nil]); first | done | rfl | (simp only [List.length_drop, List.length_take]; rfl)) ?_; (with_reducible refine (spec_l20Fraction.calls k g172 t170 t171 0 t173 t174 t175 w _ ?side1 ?side2 A3.out).mono ?_); (case side1 => repeat (first | (with_reducible first | exact HI172.out | apply IsS70.alloc | apply IsS70.drewN | apply IsS70.drew | apply IsS70.set_1) | exact HI172.out)); (case side2 => repeat (first | (with_reducible first | exact HB.out | apply below_alloc | apply pw_below_drewN | apply below_drew1 | refine below_set ?_ (IsS70.ge HI172.out)) | exact HB.out)); rintro e w7 ⟨rfl, hi, hb, hk⟩; refine ⟨_, rfl, ?_⟩; have n0_ := Aside0.mk (hb); have n1_ := Aside0.mk (hi); clear HB; clear HI172; have HB := n0_; have HI172 := n1_; clear n0_ n1_; (try clear hb); (try clear hb2); (try clear hk); (try clear hi)) | ((with_reducible refine gate_callee (f := 8) rfl ?_); refine goesL_ (some 10) rfl rfl Tryd.func8 (by kernel_rfl) rfl #[.agg #[.int .i64 t173, .int .i64 t174]] rfl (by (try simp only [List.map_toArray, List.map_cons, List.map_nil]); first | done | rfl | (simp only [List.length_drop, List.length_take]; rfl)) ?_; (with_reducible refine (spec_FractionText.calls k t173 t174 t176 _ A4.out).mono ?_); rintro e w8 ⟨rfl, hb⟩; refine ⟨_, rfl, ?_⟩; have n0_ := Aside0.mk (IsS70.below (by repeat (first | (with_reducible first | exact HI172.out | apply IsS70.alloc | apply IsS70.drewN | apply IsS70.drew | apply IsS70.set_1) | exact HI172.out)) hb); have n1_ := Aside0.mk (below_step (by repeat (first | (with_reducible first | exact HB.out | apply below_alloc | apply pw_below_drewN | apply below_drew1 | refine below_set ?_ (IsS70.ge HI172.out)) | exact HB.out)) hb); clear HI172; clear HB; have HI172 := n0_; have HB := n1_; clear n0_ n1_; (try clear hb); (try clear hb2); (try clear hk); (try clear hi)))
 (try simp only [Act.put, List.setIfInBounds_toArray, List.set_cons_zero, List.set_cons_succ])
 go_cut [18] (fun v18 wc => ∃ (kq : Nat) (x18_4 : Bool) (x173001_4 : Int), v18 = .bool x18_4 ∧ Aside0 (spec_DrawReadFraction.j0 kq t176 x18_4 t170 x173001_4 = some r) ∧ Aside0 (kq ≤ k) ∧ Aside0 (IsS70 w wc g172 t170 x173001_4) ∧ Aside0 (Below w.heap.size w wc))
 case first =>
  have H := HC5.out
  clear HC5
  replace H := Option.bind_eq_some_iff.mp H
  obtain ⟨⟨t177, t178⟩, A90, H⟩ := H
  replace H : (if t177 = 0 then (spec_DrawReadFraction.j0 k t176 (decide ((t176.size : Int) > 0)) t170 t178) else (spec_DrawReadFraction.j0 k t176 false t170 t178)) = some r := H
  have A9 := Aside0.mk A90
  clear A90
  by_cases c10 : t177 = 0
  ·
   rw [if_pos c10] at H
   have c10b0 : (t177 == 0) = true := beq_iff_eq.mpr c10
   have c10b1 : (t177 != 0) = false := bne_eq_false_iff_eq.mpr c10
   clear c10
   (first | rw [c10b0] | (simp only [i64_w, i32_w]; rw [c10b0]) | skip)
   have H' := Aside0.mk H
   clear H
   go_wp2_with (first | ((with_reducible refine gate_callee (f := 28) rfl ?_); refine goesL_ (some 12) rfl rfl Tryd.func28 (by kernel_rfl) rfl #[.pointer (some ⟨g172, 0, none⟩), .int .i64 3] rfl (by (try simp only [List.map_toArray, List.map_cons, List.map_nil]); first | done | rfl | (simp only [List.length_drop, List.length_take]; rfl)) ?_; (with_reducible refine (spec_l20Rd_pick.calls k g172 t170 t175 3 t177 t178 w _ ?side1 ?side2 A9.out).mono ?_); (case side1 => repeat (first | (with_reducible first | exact HI172.out | apply IsS70.alloc | apply IsS70.drewN | apply IsS70.drew | apply IsS70.set_1) | exact HI172.out)); (case side2 => repeat (first | (with_reducible first | exact HB.out | apply below_alloc | apply pw_below_drewN | apply below_drew1 | refine below_set ?_ (IsS70.ge HI172.out)) | exact HB.out)); rintro e w11 ⟨rfl, hi, hb, hk⟩; refine ⟨_, rfl, ?_⟩; have n0_ := Aside0.mk (hb); have n1_ := Aside0.mk (hi); clear HB; clear HI172; have HB := n0_; have HI172 := n1_; clear n0_ n1_; (try clear hb); (try clear hb2); (try clear hk); (try clear hi)))
   go_meet
   case rel => exact ⟨_, (decide ((t176.size : Int) > 0)), (t178), (by first | rfl | (simp; done) | (simp [*]; done)), H', ⟨by first | omega | exact Nat.le_refl _⟩, ⟨by repeat (first | (with_reducible first | exact HI172.out | apply IsS70.alloc | apply IsS70.drewN | apply IsS70.drew | apply IsS70.set_1) | exact HI172.out)⟩, ⟨by repeat (first | (with_reducible first | exact HB.out | apply below_alloc | apply pw_below_drewN | apply below_drew1 | refine below_set ?_ (IsS70.ge HI172.out)) | exact HB.out)⟩⟩
  ·
   rw [if_neg c10] at H
   have c10b0 : (t177 == 0) = false := beq_eq_false_iff_ne.mpr c10
   have c10b1 : (t177 != 0) = true := bne_iff_ne.mpr c10
   (first | rw [c10b0] | (simp only [i64_w, i32_w]; rw [c10b0]) | skip)
   have H' := Aside0.mk H
   clear H
   go_wp2_with (first | ((with_reducible refine gate_callee (f := 28) rfl ?_); refine goesL_ (some 12) rfl rfl Tryd.func28 (by kernel_rfl) rfl #[.pointer (some ⟨g172, 0, none⟩), .int .i64 3] rfl (by (try simp only [List.map_toArray, List.map_cons, List.map_nil]); first | done | rfl | (simp only [List.length_drop, List.length_take]; rfl)) ?_; (with_reducible refine (spec_l20Rd_pick.calls k g172 t170 t175 3 t177 t178 w _ ?side1 ?side2 A9.out).mono ?_); (case side1 => repeat (first | (with_reducible first | exact HI172.out | apply IsS70.alloc | apply IsS70.drewN | apply IsS70.drew | apply IsS70.set_1) | exact HI172.out)); (case side2 => repeat (first | (with_reducible first | exact HB.out | apply below_alloc | apply pw_below_drewN | apply below_drew1 | refine below_set ?_ (IsS70.ge HI172.out)) | exact HB.out)); rintro e w12 ⟨rfl, hi, hb, hk⟩; refine ⟨_, rfl, ?_⟩; have n0_ := Aside0.mk (hb); have n1_ := Aside0.mk (hi); clear HB; clear HI172; have HB := n0_; have HI172 := n1_; clear n0_ n1_; (try clear hb); (try clear hb2); (try clear hk); (try clear hi)))
   go_meet
   case rel => exact ⟨_, (false), (t178), (by first | rfl | (simp; done) | (simp [*]; done)), H', ⟨by first | omega | exact Nat.le_refl _⟩, ⟨by repeat (first | (with_reducible first | exact HI172.out | apply IsS70.alloc | apply IsS70.drewN | apply IsS70.drew | apply IsS70.set_1) | exact HI172.out)⟩, ⟨by repeat (first | (with_reducible first | exact HB.out | apply below_alloc | apply pw_below_drewN | apply below_drew1 | refine below_set ?_ (IsS70.ge HI172.out)) | exact HB.out)⟩⟩
 case rest =>
  clear HC5; (try clear c1); (try clear c2); (try clear p2); (try clear c8); (try clear c10); (try clear c10b0); (try clear c10b1); (try clear c12)
  obtain ⟨kq, x18_4, x173001_4, rfl, HA, HJ4, HI172, HB⟩ := hcut
  cases kq with
  | zero => exact absurd HA.out (by simp [spec_DrawReadFraction.j0])
  | succ kj4 =>
   have H := HA.out
   clear HA
   simp only [spec_DrawReadFraction.j0] at H
   by_cases c13 : x18_4 = true
   ·
    subst c13
    have H1 : ((spec_l20Rd_pick.f kj4 t170 x173001_4 (t176.size : Int)).bind fun bt179 => (if 0 ≤ bt179.1 then (if bt179.1 ≤ (t176.size : Int) then ((some (([(⟨#[]⟩ : ByteArray), (⟨#[48]⟩ : ByteArray), (⟨#[47]⟩ : ByteArray), (⟨#[45]⟩ : ByteArray), (⟨#[52]⟩ : ByteArray)] : List ByteArray) : List ByteArray)).bind fun y181 => ((spec_l20Rd_pick.f kj4 t170 bt179.2 5).bind fun bt184 => (if 0 ≤ bt184.1 then (if bt184.1 < (y181.length : Int) then (if (t176.extract 0 (bt179.1 : Int).toNat).size + (rdOf ByteArray.empty y181 bt184.1).size ≤ 9223372036854775807 then (if 0 ≤ (wrap64 (bt179.1 + 1)) then (if (wrap64 (bt179.1 + 1)) ≤ (t176.size : Int) then (if ((t176.extract 0 (bt179.1 : Int).toNat) ++ (rdOf ByteArray.empty y181 bt184.1)).size + (t176.extract ((wrap64 (bt179.1 + 1)) : Int).toNat t176.size).size ≤ 9223372036854775807 then (some (((t176.extract 0 (bt179.1 : Int).toNat) ++ (rdOf ByteArray.empty y181 bt184.1)) ++ (t176.extract ((wrap64 (bt179.1 + 1)) : Int).toNat t176.size))) else (none)) else (none)) else (none)) else (none)) else (none)) else (none)))) else (none)) else (none))) = some r := by rw [if_pos rfl] at H; exact H
    clear H
    have H := H1
    clear H1
    replace H := Option.bind_eq_some_iff.mp H
    obtain ⟨⟨t179, t180⟩, A140, H⟩ := H
    replace H : (if 0 ≤ t179 then (if t179 ≤ (t176.size : Int) then ((some (([(⟨#[]⟩ : ByteArray), (⟨#[48]⟩ : ByteArray), (⟨#[47]⟩ : ByteArray), (⟨#[45]⟩ : ByteArray), (⟨#[52]⟩ : ByteArray)] : List ByteArray) : List ByteArray)).bind fun y181 => ((spec_l20Rd_pick.f kj4 t170 t180 5).bind fun bt184 => (if 0 ≤ bt184.1 then (if bt184.1 < (y181.length : Int) then (if (t176.extract 0 (t179 : Int).toNat).size + (rdOf ByteArray.empty y181 bt184.1).size ≤ 9223372036854775807 then (if 0 ≤ (wrap64 (t179 + 1)) then (if (wrap64 (t179 + 1)) ≤ (t176.size : Int) then (if ((t176.extract 0 (t179 : Int).toNat) ++ (rdOf ByteArray.empty y181 bt184.1)).size + (t176.extract ((wrap64 (t179 + 1)) : Int).toNat t176.size).size ≤ 9223372036854775807 then (some (((t176.extract 0 (t179 : Int).toNat) ++ (rdOf ByteArray.empty y181 bt184.1)) ++ (t176.extract ((wrap64 (t179 + 1)) : Int).toNat t176.size))) else (none)) else (none)) else (none)) else (none)) else (none)) else (none)))) else (none)) else (none)) = some r := H
    have A14 := Aside0.mk A140
    clear A140
    by_cases c15 : 0 ≤ t179
    ·
     rw [if_pos c15] at H
     have c15b0 := eq_true c15
     have c15b1 : decide (0 ≤ t179) = true := decide_eq_true c15
     clear c15
     by_cases c16 : t179 ≤ (t176.size : Int)
     ·
      rw [if_pos c16] at H
      have c16b0 := eq_true c16
      have c16b1 : decide (t179 ≤ (t176.size : Int)) = true := decide_eq_true c16
      clear c16
      obtain ⟨y181, hy181⟩ : ∃ y_ : List ByteArray, y_ = (([(⟨#[]⟩ : ByteArray), (⟨#[48]⟩ : ByteArray), (⟨#[47]⟩ : ByteArray), (⟨#[45]⟩ : ByteArray), (⟨#[52]⟩ : ByteArray)] : List ByteArray)) := ⟨_, rfl⟩
      replace H : ((spec_l20Rd_pick.f kj4 t170 t180 5).bind fun bt184 => (if 0 ≤ bt184.1 then (if bt184.1 < (y181.length : Int) then (if (t176.extract 0 (t179 : Int).toNat).size + (rdOf ByteArray.empty y181 bt184.1).size ≤ 9223372036854775807 then (if 0 ≤ (wrap64 (t179 + 1)) then (if (wrap64 (t179 + 1)) ≤ (t176.size : Int) then (if ((t176.extract 0 (t179 : Int).toNat) ++ (rdOf ByteArray.empty y181 bt184.1)).size + (t176.extract ((wrap64 (t179 + 1)) : Int).toNat t176.size).size ≤ 9223372036854775807 then (some (((t176.extract 0 (t179 : Int).toNat) ++ (rdOf ByteArray.empty y181 bt184.1)) ++ (t176.extract ((wrap64 (t179 + 1)) : Int).toNat t176.size))) else (none)) else (none)) else (none)) else (none)) else (none)) else (none))) = some r := by first | (rw [hy181]; with_reducible exact H) | (have H2_ := (Option.bind_some _ _).symm.trans H; rw [hy181]; with_reducible exact H2_) | (have H2_ := (Option.bind_some _ _).symm.trans H; with_reducible exact H2_) | with_reducible exact H | (rw [hy181]; exact H) | exact H
      have Ny181 := Aside0.mk hy181
      clear hy181
      replace H := Option.bind_eq_some_iff.mp H
      obtain ⟨⟨t184, t185⟩, A170, H⟩ := H
      replace H : (if 0 ≤ t184 then (if t184 < (y181.length : Int) then (if (t176.extract 0 (t179 : Int).toNat).size + (rdOf ByteArray.empty y181 t184).size ≤ 9223372036854775807 then (if 0 ≤ (wrap64 (t179 + 1)) then (if (wrap64 (t179 + 1)) ≤ (t176.size : Int) then (if ((t176.extract 0 (t179 : Int).toNat) ++ (rdOf ByteArray.empty y181 t184)).size + (t176.extract ((wrap64 (t179 + 1)) : Int).toNat t176.size).size ≤ 9223372036854775807 then (some (((t176.extract 0 (t179 : Int).toNat) ++ (rdOf ByteArray.empty y181 t184)) ++ (t176.extract ((wrap64 (t179 + 1)) : Int).toNat t176.size))) else (none)) else (none)) else (none)) else (none)) else (none)) else (none)) = some r := H
      have A17 := Aside0.mk A170
      clear A170
      by_cases c18 : 0 ≤ t184
      ·
       rw [if_pos c18] at H
       have c18b0 : decide (0 ≤ t184) = true := decide_eq_true c18
       clear c18
       by_cases c19 : t184 < (y181.length : Int)
       ·
        rw [if_pos c19] at H
        have c19b0 : decide (t184 < (y181.length : Int)) = true := decide_eq_true c19
        clear c19
        by_cases c20 : (t176.extract 0 (t179 : Int).toNat).size + (rdOf ByteArray.empty y181 t184).size ≤ 9223372036854775807
        ·
         rw [if_pos c20] at H
         have c20b0 := eq_true c20
         have c20b1 : decide ((t176.extract 0 (t179 : Int).toNat).size + (rdOf ByteArray.empty y181 t184).size ≤ 9223372036854775807) = true := decide_eq_true c20
         try have c20b2 : (9223372036854775807 < (t176.extract 0 (t179 : Int).toNat).size + (rdOf ByteArray.empty y181 t184).size) = False := eq_false (Nat.not_lt.2 c20)
         obtain ⟨ji21, hji21⟩ : ∃ j_ : Int, (wrap64 (t179 + 1)) = j_ := ⟨_, rfl⟩
         replace H : (if 0 ≤ (ji21) then (if (ji21) ≤ (t176.size : Int) then (if ((t176.extract 0 (t179 : Int).toNat) ++ (rdOf ByteArray.empty y181 t184)).size + (t176.extract ((ji21) : Int).toNat t176.size).size ≤ 9223372036854775807 then (some (((t176.extract 0 (t179 : Int).toNat) ++ (rdOf ByteArray.empty y181 t184)) ++ (t176.extract ((ji21) : Int).toNat t176.size))) else (none)) else (none)) else (none)) = some r := by first | (rw [hji21] at H; exact H) | (simp only [hji21] at H ⊢; exact H)
         (try rw [hji21] at A14)
         (try rw [hji21] at A17)
         have hji21w : (IntKind.i64.wrap (t179 + 1)) = ji21 := (i64_w _).trans hji21
         by_cases c22 : 0 ≤ (ji21)
         ·
          rw [if_pos c22] at H
          have c22b0 := eq_true c22
          have c22b1 : decide (0 ≤ (ji21)) = true := decide_eq_true c22
          clear c22
          by_cases c23 : (ji21) ≤ (t176.size : Int)
          ·
           rw [if_pos c23] at H
           have c23b0 := eq_true c23
           have c23b1 : decide ((ji21) ≤ (t176.size : Int)) = true := decide_eq_true c23
           clear c23
           by_cases c24 : ((t176.extract 0 (t179 : Int).toNat) ++ (rdOf ByteArray.empty y181 t184)).size + (t176.extract ((ji21) : Int).toNat t176.size).size ≤ 9223372036854775807
           ·
            rw [if_pos c24] at H
            have c24b0 := eq_true c24
            have c24b1 : decide (((t176.extract 0 (t179 : Int).toNat) ++ (rdOf ByteArray.empty y181 t184)).size + (t176.extract ((ji21) : Int).toNat t176.size).size ≤ 9223372036854775807) = true := decide_eq_true c24
            try have c24b2 : (9223372036854775807 < ((t176.extract 0 (t179 : Int).toNat) ++ (rdOf ByteArray.empty y181 t184)).size + (t176.extract ((ji21) : Int).toNat t176.size).size) = False := eq_false (Nat.not_lt.2 c24)
            obtain rfl := Option.some.inj H
            try go_wp2_with (first | ((with_reducible refine gate_callee (f := 28) rfl ?_); refine goesL_ (some 22) rfl rfl Tryd.func28 (by kernel_rfl) rfl #[.pointer (some ⟨g172, 0, none⟩), .int .i64 (t176.size : Int)] rfl (by (try simp only [List.map_toArray, List.map_cons, List.map_nil]); first | done | rfl | (simp only [List.length_drop, List.length_take]; rfl)) ?_; (with_reducible refine (spec_l20Rd_pick.calls kj4 g172 t170 x173001_4 (t176.size : Int) t179 t180 w _ ?side1 ?side2 A14.out).mono ?_); (case side1 => repeat (first | (with_reducible first | exact HI172.out | apply IsS70.alloc | apply IsS70.drewN | apply IsS70.drew | apply IsS70.set_1) | exact HI172.out)); (case side2 => repeat (first | (with_reducible first | exact HB.out | apply below_alloc | apply pw_below_drewN | apply below_drew1 | refine below_set ?_ (IsS70.ge HI172.out)) | exact HB.out)); rintro e w25 ⟨rfl, hi, hb, hk⟩; refine ⟨_, rfl, ?_⟩; have n0_ := Aside0.mk (hb); have n1_ := Aside0.mk (hi); clear HB; clear HI172; have HB := n0_; have HI172 := n1_; clear n0_ n1_; (try clear hb); (try clear hb2); (try clear hk); (try clear hi)))
            have pi186 : (0 ≤ (t184 : Int)) = True := eq_true (of_decide_eq_true (by first | (with_reducible assumption) | assumption))
            have qi186 : (t184 < (y181.length : Int)) = True := eq_true (of_decide_eq_true (by first | (with_reducible assumption) | assumption))
            have n0_ := Aside0.mk (IsS70.drew HI172.out)
            have n1_ := Aside0.mk (below_drew1 HB.out)
            clear HI172; clear HB
            have HI172 := n0_
            have HB := n1_
            clear n0_ n1_
            refine start_ (n := 15) (S := fun w' => True) (ds := []) #[false, false, false, false, false, false, false, false, false, false, false, false, false, false, false] (by kernel_rfl) rfl rfl trivial (fun hHeld => ?_); refine with_tabW spec_DrawReadFraction.tab5 spec_DrawReadFraction.bits5 (fun HT_ HW_ => ?_)
            generalize w25.drew = w26 at HI172 HB hHeld ⊢
            refine pure_ (i := 0) (N := some 23) (v := ?_) (a' := ?_) #[true, false, false, false, false, false, false, false, false, false, false, false, false, false, false] rfl rfl (any_of HT_.out (by kernel_rfl)) (fun _ _ _ h => h) (Or.inl ⟨by rfl, ?_⟩) ?_ ?_
            rotate_left
            ·
             intro w'
             go_simp
             with_reducible rfl
            rotate_left
            ·
             simp only [Act.put, List.setIfInBounds_toArray, List.set_cons_zero, List.set_cons_succ, i64_w, i32_w]
             rfl
            refine pure_ (i := 1) (N := some 24) (v := ?_) (a' := ?_) #[true, true, false, false, false, false, false, false, false, false, false, false, false, false, false] rfl rfl (any_of HT_.out (by kernel_rfl)) (fun _ _ _ h => h) (Or.inl ⟨by rfl, ?_⟩) ?_ ?_
            rotate_left
            ·
             intro w'
             go_simp
             with_reducible rfl
            rotate_left
            ·
             simp only [Act.put, List.setIfInBounds_toArray, List.set_cons_zero, List.set_cons_succ, i64_w, i32_w]
             rfl
            refine pure_ (i := 4) (N := some 27) (v := ?_) (a' := ?_) #[true, true, false, false, true, false, false, false, false, false, false, false, false, false, false] rfl rfl (any_of HT_.out (by kernel_rfl)) (fun _ _ _ h => h) (Or.inl ⟨by rfl, ?_⟩) ?_ ?_
            rotate_left
            ·
             intro w'
             go_simp
             with_reducible rfl
            rotate_left
            ·
             simp only [Act.put, List.setIfInBounds_toArray, List.set_cons_zero, List.set_cons_succ, i64_w, i32_w]
             rfl
            refine pure_ (i := 9) (N := some 32) (v := ?_) (a' := ?_) #[true, true, false, false, true, false, false, false, false, true, false, false, false, false, false] rfl rfl (any_of HT_.out (by kernel_rfl)) (fun _ _ _ h => h) (Or.inl ⟨by rfl, ?_⟩) ?_ ?_
            rotate_left
            ·
             intro w'
             go_simp
             with_reducible rfl
            rotate_left
            ·
             simp only [Act.put, List.setIfInBounds_toArray, List.set_cons_zero, List.set_cons_succ, i64_w, i32_w]
             rfl
            refine pure_ (i := 10) (N := some 33) (v := ?_) (a' := ?_) #[true, true, false, false, true, false, false, false, false, true, true, false, false, false, false] rfl rfl (any_of HT_.out (by kernel_rfl)) (fun _ _ _ h => h) (Or.inl ⟨by rfl, ?_⟩) ?_ ?_
            rotate_left
            ·
             intro w'
             go_simp
             with_reducible rfl
            rotate_left
            ·
             simp only [Act.put, List.setIfInBounds_toArray, List.set_cons_zero, List.set_cons_succ, i64_w, i32_w]
             rfl
            refine inv_at [2, 3, 5, 6, 7, 8, 11, 12, 13, 14] (fun a0_ b a w' => ∃ (v182 : Value) (adz_v182 : Addr) (m6_ : Value), a = putSel a0_ b [(2, 25, .string (t176.extract 0 (t179 : Int).toNat)), (3, 26, v182), (5, 28, .int .i64 t184), (6, 29, m6_), (7, 30, .string (rdOf ByteArray.empty y181 t184)), (8, 31, .string ((t176.extract 0 (t179 : Int).toNat) ++ (rdOf ByteArray.empty y181 t184))), (11, 34, .int .i64 ji21), (12, 35, .string (t176.extract ((ji21) : Int).toNat t176.size)), (13, 36, .string (((t176.extract 0 (t179 : Int).toNat) ++ (rdOf ByteArray.empty y181 t184)) ++ (t176.extract ((ji21) : Int).toNat t176.size))), (14, 2, .string (((t176.extract 0 (t179 : Int).toNat) ++ (rdOf ByteArray.empty y181 t184)) ++ (t176.extract ((ji21) : Int).toNat t176.size)))] ∧ (b 5 = false → IsS70 w w' g172 t170 t180) ∧ (Below w.heap.size w w') ∧ (b 3 = true → Kd.R Kd.string 9 w' w.heap.size (fun _ => True) v182 y181) ∧ (b 3 = true → ∃ c_, (v182 : Value) = .slice (some adz_v182) y181.length c_) ∧ (b 5 = true → IsS70 w w' g172 t170 t185) ∧ (b 6 = true → (m6_ : Value) = .pointer (some (adz_v182.add (t184).toNat)))) HT_.out HW_.out (by kernel_rfl) (by kernel_rfl) ?_ ?_ ?_
            ·
             exact ⟨.bool false, ⟨0, 0, none⟩, .bool false, by simp only [putSel, Bool.false_eq_true, if_false], fun _ => HI172.out, HB.out, fun h_ => absurd h_ (by decide), fun h_ => absurd h_ (by decide), fun h_ => absurd h_ (by decide), fun h_ => absurd h_ (by decide)⟩
            ·
             skip
             clear HB HI172
             refine steps_cons ?_ ?_
             ·
              rintro b a w' ⟨v182, adz_v182, m6_, ha, Q_HI172, Q_HB, Q_HO183, Q_HA_HO183, Q_HI172_e5, Q_X6_⟩ hb_ hon hoff
              refine ⟨_, rfl, fun K hK => ?_⟩
              have e23 : a.tmps[23]? = some (.string t176) := by rw [ha]; exact (putSel_off rfl).trans rfl
              have e24 : a.tmps[24]? = some (.int .i64 t179) := by rw [ha]; exact (putSel_off rfl).trans rfl
              replace ha := Aside0.mk ha
              have HB := Aside0.mk Q_HB
              refine value_ (w1 := w') (v := .string (t176.extract 0 (t179 : Int).toNat)) (by rfl) rfl ?_ ?_
              ·
               go_simp
               (try simp only [i64_w])
               try rfl
              refine hK.out _ _ ⟨v182, adz_v182, m6_, (by rw [ha.out]; exact putSel_upk 0 hb_ rfl rfl rfl), Q_HI172, Q_HB, Q_HO183, Q_HA_HO183, Q_HI172_e5, Q_X6_⟩
             refine steps_cons ?_ ?_
             ·
              rintro b a w' ⟨v182, adz_v182, m6_, ha, Q_HI172, Q_HB, Q_HO183, Q_HA_HO183, Q_HI172_e5, Q_X6_⟩ hb_ hon hoff
              refine ⟨_, rfl, fun K hK => ?_⟩
              replace ha := Aside0.mk ha
              have HB := Aside0.mk Q_HB
              refine Kd.R_lit_step Kd.string _ 9 ?hg (N := 26) ?hd (xs := ([(⟨#[]⟩ : ByteArray), (⟨#[48]⟩ : ByteArray), (⟨#[47]⟩ : ByteArray), (⟨#[45]⟩ : ByteArray), (⟨#[52]⟩ : ByteArray)] : List ByteArray)) (inner := [.string (⟨#[]⟩ : ByteArray), .string (⟨#[48]⟩ : ByteArray), .string (⟨#[47]⟩ : ByteArray), .string (⟨#[45]⟩ : ByteArray), .string (⟨#[52]⟩ : ByteArray)]) (ok := fun _ => True) (okp := fun _ => True) ?hr ?hp (fun _ hk => hk) trivial (Below.refl _ _) (Nat.le_refl _) (by simp) ?_; (case hd => rfl); (case hg => rfl); (case hr => first | (go_simp; done) | (go_simp; rfl)); (case hp => exact (Reps.one (show Kd.M Kd.string _ _ _ (⟨#[]⟩ : ByteArray) [.string (⟨#[]⟩ : ByteArray)] from rfl) (Reps.one (show Kd.M Kd.string _ _ _ (⟨#[48]⟩ : ByteArray) [.string (⟨#[48]⟩ : ByteArray)] from rfl) (Reps.one (show Kd.M Kd.string _ _ _ (⟨#[47]⟩ : ByteArray) [.string (⟨#[47]⟩ : ByteArray)] from rfl) (Reps.one (show Kd.M Kd.string _ _ _ (⟨#[45]⟩ : ByteArray) [.string (⟨#[45]⟩ : ByteArray)] from rfl) (Reps.one (show Kd.M Kd.string _ _ _ (⟨#[52]⟩ : ByteArray) [.string (⟨#[52]⟩ : ByteArray)] from rfl) (Reps.none _ _)))))))
              intro v182 w27 ho28 hb hg_ hnew_
              clear hg_ hnew_
              (first | rw [← Ny181.out] at ho28 | (simp only [Int.reduceToNat] at ho28; rw [← Ny181.out] at ho28))
              have n0_ := Aside0.mk (Kd.R_lower ho28 (below_size (lb0q5 HB.out)))
              have n2_ := Aside0.mk (below_step (lb0q5 HB.out) hb)
              have z_HI172 := fun (h0_ : b 5 = false) => (show IsS70 w w27 g172 t170 t180 from by first | exact (IsS70.below (by repeat (first | (with_reducible first | exact (Q_HI172 h0_) | apply IsS70.alloc | apply IsS70.drewN | apply IsS70.drew | apply IsS70.set_1) | exact (Q_HI172 h0_))) hb))
              have z_HI172_e5 := fun (h0_ : b 5 = true) => (show IsS70 w w27 g172 t170 t185 from by first | exact (IsS70.below (by repeat (first | (with_reducible first | exact (Q_HI172_e5 h0_) | apply IsS70.alloc | apply IsS70.drewN | apply IsS70.drew | apply IsS70.set_1) | exact (Q_HI172_e5 h0_))) hb))
              clear HB
              have HO183 := n0_
              have HB := n2_
              clear n0_ n2_
              clear hb ho28
              obtain ⟨Ao29, co29, eo29⟩ := Kd.R_slice HO183.out
              subst eo29
              obtain ⟨ado29, fo29, _⟩ := Kd.at_string (Kd.R_reads' HO183.out).2.2 0 (by decide) (by rw [Ny181.out]; simp)
              cases fo29
              refine hK.out _ _ ⟨.slice (some ado29) y181.length co29, ado29, m6_, (by rw [ha.out]; exact putSel_upk 1 hb_ rfl rfl rfl), z_HI172, (lb0q5 HB.out), fun _ => (krq5 HO183.out), fun _ => ⟨_, rfl⟩, z_HI172_e5, fun h0_ => absurd ((hoff 6 (by kernel_rfl)).symm.trans h0_) (by decide)⟩
             refine steps_cons ?_ ?_
             ·
              rintro b a w' ⟨v182, adz_v182, m6_, ha, Q_HI172, Q_HB, Q_HO183, Q_HA_HO183, Q_HI172_e5, Q_X6_⟩ hb_ hon hoff
              refine ⟨_, rfl, fun K hK => ?_⟩
              have e27 : a.tmps[27]? = some (.pointer (some ⟨g172, 0, none⟩)) := by rw [ha]; exact (putSel_off rfl).trans rfl
              replace ha := Aside0.mk ha
              have HI172 := Aside0.mk (Q_HI172 hb_)
              have HB := Aside0.mk Q_HB
              refine goes_ Tryd.func28 (by kernel_rfl) rfl #[.pointer (some ⟨g172, 0, none⟩), .int .i64 5] (by rfl) rfl rfl (by first | (simp only [List.map_toArray, List.map_cons, List.map_nil, Act.eval, Array.getD_eq_getD_getElem?, Option.getD_some, e27]; done) | (simp only [List.map_toArray, List.map_cons, List.map_nil, Act.eval, Array.getD_eq_getD_getElem?, Option.getD_some, e27]; rfl)) ?_
              with_reducible refine (spec_l20Rd_pick.calls kj4 g172 t170 t180 5 t184 t185 w _ ?side1 ?side2 A17.out).mono ?_
              (case side1 => repeat (first | (with_reducible first | exact HI172.out | apply IsS70.alloc | apply IsS70.drewN | apply IsS70.drew | apply IsS70.set_1) | exact HI172.out))
              (case side2 => repeat (first | (with_reducible first | exact HB.out | apply below_alloc | apply pw_below_drewN | apply below_drew1 | refine below_set ?_ (IsS70.ge HI172.out)) | exact HB.out))
              rintro e w27 ⟨rfl, hi, hb, hk⟩
              refine ⟨_, rfl, ?_⟩
              have n0_ := Aside0.mk (hb)
              have n1_ := Aside0.mk (hi)
              have z_HO183 := fun (h0_ : b 3 = true) => (show Kd.R Kd.string 9 w27 w.heap.size (fun _ => True) v182 y181 from by first | exact (Kd.R_mono (Kd.R_keep (IsS70.apart (show IsS70 w _ g172 t170 t180 from by repeat (first | (with_reducible first | exact HI172.out | apply IsS70.alloc | apply IsS70.drewN | apply IsS70.drew | apply IsS70.set_1) | exact HI172.out)) (by (with_reducible repeat (first | apply Kd.R_alloc | apply Kd.R_drewN | apply Kd.R_drew)); exact (Q_HO183 h0_)) (by decide)) hk (fun _ h => h.2)) (fun _ h => h.1)) | exact Kd.R_mono (Kd.R_mono (Kd.R_keep (IsS70.apart (show IsS70 w _ g172 t170 t180 from by repeat (first | (with_reducible first | exact HI172.out | apply IsS70.alloc | apply IsS70.drewN | apply IsS70.drew | apply IsS70.set_1) | exact HI172.out)) (by (with_reducible repeat (first | apply Kd.R_alloc | apply Kd.R_drewN | apply Kd.R_drew)); exact (Q_HO183 h0_)) (by decide)) hk (fun _ h => h.2)) (fun _ h => h.1)) (fun _ h_ => by first | trivial | exact h_ | exact h_.1))
              clear HB; clear HI172
              have HB := n0_
              have HI172 := n1_
              clear n0_ n1_
              (try clear hb)
              (try clear hb2)
              (try clear hk)
              (try clear hi)
              refine hK.out _ _ ⟨v182, adz_v182, m6_, (by rw [ha.out]; exact putSel_upk 2 hb_ rfl rfl rfl), fun h0_ => absurd ((up_self b 5).symm.trans h0_) (by decide), (by repeat (first | (with_reducible first | exact HB.out | apply below_alloc | apply pw_below_drewN | apply below_drew1 | refine below_set ?_ (IsS70.ge HI172.out)) | exact HB.out)), z_HO183, Q_HA_HO183, fun _ => (by repeat (first | (with_reducible first | exact HI172.out | apply IsS70.alloc | apply IsS70.drewN | apply IsS70.drew | apply IsS70.set_1) | exact HI172.out)), fun h0_ => absurd ((hoff 6 (by kernel_rfl)).symm.trans h0_) (by decide)⟩
             refine steps_cons ?_ ?_
             ·
              rintro b a w' ⟨v182, adz_v182, m6_, ha, Q_HI172, Q_HB, Q_HO183, Q_HA_HO183, Q_HI172_e5, Q_X6_⟩ hb_ hon hoff
              refine ⟨_, rfl, fun K hK => ?_⟩
              have e26 : a.tmps[26]? = some (v182) := by rw [ha]; exact putSel_on (e := (3, 26, v182)) 1 rfl rfl (hon 3 (by kernel_rfl)) rfl
              have e28 : a.tmps[28]? = some (.int .i64 t184) := by rw [ha]; exact putSel_on (e := (5, 28, .int .i64 t184)) 2 rfl rfl (hon 5 (by kernel_rfl)) rfl
              replace ha := Aside0.mk ha
              have HB := Aside0.mk Q_HB
              have HO183 := Aside0.mk (Q_HO183 (hon 3 (by kernel_rfl)))
              have HA_HO183 := Aside0.mk (Q_HA_HO183 (hon 3 (by kernel_rfl)))
              have HI172 := Aside0.mk (Q_HI172_e5 (hon 5 (by kernel_rfl)))
              obtain ⟨c_, hv_⟩ := HA_HO183.out
              rw [hv_] at e26
              refine value_ (w1 := w') (v := .pointer (some (adz_v182.add (t184).toNat))) (by rfl) rfl ?_ ?_
              ·
               go_simp
               (try simp only [i64_w])
               try rfl
              refine hK.out _ _ ⟨v182, adz_v182, (.pointer (some (adz_v182.add (t184).toNat))), (by rw [ha.out]; exact putSel_upk 3 hb_ rfl rfl rfl), fun h0_ => absurd ((hon 5 (by kernel_rfl)).symm.trans h0_) (by decide), Q_HB, Q_HO183, Q_HA_HO183, Q_HI172_e5, fun _ => rfl⟩
             refine steps_cons ?_ ?_
             ·
              rintro b a w' ⟨v182, adz_v182, m6_, ha, Q_HI172, Q_HB, Q_HO183, Q_HA_HO183, Q_HI172_e5, Q_X6_⟩ hb_ hon hoff
              refine ⟨_, rfl, fun K hK => ?_⟩
              have e29 : a.tmps[29]? = some (m6_) := by rw [ha]; exact putSel_on (e := (6, 29, m6_)) 3 rfl rfl (hon 6 (by kernel_rfl)) rfl
              rw [Q_X6_ (hon 6 (by kernel_rfl))] at e29
              replace ha := Aside0.mk ha
              have HB := Aside0.mk Q_HB
              have HO183 := Aside0.mk (Q_HO183 (hon 3 (by kernel_rfl)))
              have HA_HO183 := Aside0.mk (Q_HA_HO183 (hon 3 (by kernel_rfl)))
              have HI172 := Aside0.mk (Q_HI172_e5 (hon 5 (by kernel_rfl)))
              obtain ⟨c_, hv_⟩ := HA_HO183.out
              have hF_ := HO183.out
              rw [hv_] at hF_
              obtain ⟨ad_, ea_, hx_⟩ := Kd.at_string (Kd.R_reads' hF_).2.2 t184 (of_eq_true pi186) (of_eq_true qi186)
              cases ea_
              refine value_ (w1 := w') (v := .string (rdOf ByteArray.empty y181 t184)) (by rfl) rfl ?_ ?_
              ·
               go_simp
               (try simp only [i64_w])
               try rfl
              refine hK.out _ _ ⟨v182, adz_v182, m6_, (by rw [ha.out]; exact putSel_upk 4 hb_ rfl rfl rfl), fun h0_ => absurd ((hon 5 (by kernel_rfl)).symm.trans h0_) (by decide), Q_HB, Q_HO183, Q_HA_HO183, Q_HI172_e5, Q_X6_⟩
             refine steps_cons ?_ ?_
             ·
              rintro b a w' ⟨v182, adz_v182, m6_, ha, Q_HI172, Q_HB, Q_HO183, Q_HA_HO183, Q_HI172_e5, Q_X6_⟩ hb_ hon hoff
              refine ⟨_, rfl, fun K hK => ?_⟩
              have e25 : a.tmps[25]? = some (.string (t176.extract 0 (t179 : Int).toNat)) := by rw [ha]; exact putSel_on (e := (2, 25, .string (t176.extract 0 (t179 : Int).toNat))) 0 rfl rfl (hon 2 (by kernel_rfl)) rfl
              have e30 : a.tmps[30]? = some (.string (rdOf ByteArray.empty y181 t184)) := by rw [ha]; exact putSel_on (e := (7, 30, .string (rdOf ByteArray.empty y181 t184))) 4 rfl rfl (hon 7 (by kernel_rfl)) rfl
              replace ha := Aside0.mk ha
              have HB := Aside0.mk Q_HB
              have HO183 := Aside0.mk (Q_HO183 (hon 3 (by kernel_rfl)))
              have HA_HO183 := Aside0.mk (Q_HA_HO183 (hon 3 (by kernel_rfl)))
              have HI172 := Aside0.mk (Q_HI172_e5 (hon 5 (by kernel_rfl)))
              refine value_ (w1 := w') (v := .string ((t176.extract 0 (t179 : Int).toNat) ++ (rdOf ByteArray.empty y181 t184))) (by rfl) rfl ?_ ?_
              ·
               go_simp
               (try simp only [i64_w])
               try rfl
               try (have q1_ := of_eq_true c20b0; have q2_ := of_eq_true c16b0; have q3_ := of_eq_true c15b0; rw [ByteArray.size_extract] at q1_; omega)
              refine hK.out _ _ ⟨v182, adz_v182, m6_, (by rw [ha.out]; exact putSel_upk 5 hb_ rfl rfl rfl), fun h0_ => absurd ((hon 5 (by kernel_rfl)).symm.trans h0_) (by decide), Q_HB, Q_HO183, Q_HA_HO183, Q_HI172_e5, Q_X6_⟩
             refine steps_cons ?_ ?_
             ·
              rintro b a w' ⟨v182, adz_v182, m6_, ha, Q_HI172, Q_HB, Q_HO183, Q_HA_HO183, Q_HI172_e5, Q_X6_⟩ hb_ hon hoff
              refine ⟨_, rfl, fun K hK => ?_⟩
              have e33 : a.tmps[33]? = some (.int .i64 t179) := by rw [ha]; exact (putSel_off rfl).trans rfl
              replace ha := Aside0.mk ha
              have HB := Aside0.mk Q_HB
              refine value_ (w1 := w') (v := .int .i64 ji21) (by rfl) rfl ?_ ?_
              ·
               go_simp
               (try simp only [i64_w])
               try rfl
              refine hK.out _ _ ⟨v182, adz_v182, m6_, (by rw [ha.out]; exact putSel_upk 6 hb_ rfl rfl rfl), Q_HI172, Q_HB, Q_HO183, Q_HA_HO183, Q_HI172_e5, Q_X6_⟩
             refine steps_cons ?_ ?_
             ·
              rintro b a w' ⟨v182, adz_v182, m6_, ha, Q_HI172, Q_HB, Q_HO183, Q_HA_HO183, Q_HI172_e5, Q_X6_⟩ hb_ hon hoff
              refine ⟨_, rfl, fun K hK => ?_⟩
              have e32 : a.tmps[32]? = some (.string t176) := by rw [ha]; exact (putSel_off rfl).trans rfl
              have e34 : a.tmps[34]? = some (.int .i64 ji21) := by rw [ha]; exact putSel_on (e := (11, 34, .int .i64 ji21)) 6 rfl rfl (hon 11 (by kernel_rfl)) rfl
              replace ha := Aside0.mk ha
              have HB := Aside0.mk Q_HB
              refine value_ (w1 := w') (v := .string (t176.extract ((ji21) : Int).toNat t176.size)) (by rfl) rfl ?_ ?_
              ·
               go_simp
               (try simp only [i64_w])
               try rfl
              refine hK.out _ _ ⟨v182, adz_v182, m6_, (by rw [ha.out]; exact putSel_upk 7 hb_ rfl rfl rfl), Q_HI172, Q_HB, Q_HO183, Q_HA_HO183, Q_HI172_e5, Q_X6_⟩
             refine steps_cons ?_ ?_
             ·
              rintro b a w' ⟨v182, adz_v182, m6_, ha, Q_HI172, Q_HB, Q_HO183, Q_HA_HO183, Q_HI172_e5, Q_X6_⟩ hb_ hon hoff
              refine ⟨_, rfl, fun K hK => ?_⟩
              have e31 : a.tmps[31]? = some (.string ((t176.extract 0 (t179 : Int).toNat) ++ (rdOf ByteArray.empty y181 t184))) := by rw [ha]; exact putSel_on (e := (8, 31, .string ((t176.extract 0 (t179 : Int).toNat) ++ (rdOf ByteArray.empty y181 t184)))) 5 rfl rfl (hon 8 (by kernel_rfl)) rfl
              have e35 : a.tmps[35]? = some (.string (t176.extract ((ji21) : Int).toNat t176.size)) := by rw [ha]; exact putSel_on (e := (12, 35, .string (t176.extract ((ji21) : Int).toNat t176.size))) 7 rfl rfl (hon 12 (by kernel_rfl)) rfl
              replace ha := Aside0.mk ha
              have HB := Aside0.mk Q_HB
              have HO183 := Aside0.mk (Q_HO183 (hon 3 (by kernel_rfl)))
              have HA_HO183 := Aside0.mk (Q_HA_HO183 (hon 3 (by kernel_rfl)))
              have HI172 := Aside0.mk (Q_HI172_e5 (hon 5 (by kernel_rfl)))
              refine value_ (w1 := w') (v := .string (((t176.extract 0 (t179 : Int).toNat) ++ (rdOf ByteArray.empty y181 t184)) ++ (t176.extract ((ji21) : Int).toNat t176.size))) (by rfl) rfl ?_ ?_
              ·
               go_simp
               (try simp only [i64_w])
               try rfl
               try (have q1_ := of_eq_true c24b0; have q2_ := of_eq_true c16b0; have q3_ := of_eq_true c15b0; rw [ByteArray.size_append, ByteArray.size_extract, ByteArray.size_extract] at q1_; omega)
              refine hK.out _ _ ⟨v182, adz_v182, m6_, (by rw [ha.out]; exact putSel_upk 8 hb_ rfl rfl rfl), fun h0_ => absurd ((hon 5 (by kernel_rfl)).symm.trans h0_) (by decide), Q_HB, Q_HO183, Q_HA_HO183, Q_HI172_e5, Q_X6_⟩
             refine steps_cons ?_ ?_
             ·
              rintro b a w' ⟨v182, adz_v182, m6_, ha, Q_HI172, Q_HB, Q_HO183, Q_HA_HO183, Q_HI172_e5, Q_X6_⟩ hb_ hon hoff
              refine ⟨_, rfl, fun K hK => ?_⟩
              have e36 : a.tmps[36]? = some (.string (((t176.extract 0 (t179 : Int).toNat) ++ (rdOf ByteArray.empty y181 t184)) ++ (t176.extract ((ji21) : Int).toNat t176.size))) := by rw [ha]; exact putSel_on (e := (13, 36, .string (((t176.extract 0 (t179 : Int).toNat) ++ (rdOf ByteArray.empty y181 t184)) ++ (t176.extract ((ji21) : Int).toNat t176.size)))) 8 rfl rfl (hon 13 (by kernel_rfl)) rfl
              replace ha := Aside0.mk ha
              have HB := Aside0.mk Q_HB
              have HO183 := Aside0.mk (Q_HO183 (hon 3 (by kernel_rfl)))
              have HA_HO183 := Aside0.mk (Q_HA_HO183 (hon 3 (by kernel_rfl)))
              have HI172 := Aside0.mk (Q_HI172_e5 (hon 5 (by kernel_rfl)))
              refine value_ (w1 := w') (v := .string (((t176.extract 0 (t179 : Int).toNat) ++ (rdOf ByteArray.empty y181 t184)) ++ (t176.extract ((ji21) : Int).toNat t176.size))) (by rfl) rfl ?_ ?_
              ·
               go_simp
               (try simp only [i64_w])
               try rfl
               try (have q1_ := of_eq_true c24b0; have q2_ := of_eq_true c16b0; have q3_ := of_eq_true c15b0; rw [ByteArray.size_append, ByteArray.size_extract, ByteArray.size_extract] at q1_; omega)
              refine hK.out _ _ ⟨v182, adz_v182, m6_, (by rw [ha.out]; exact putSel_upk 9 hb_ rfl rfl rfl), fun h0_ => absurd ((hon 5 (by kernel_rfl)).symm.trans h0_) (by decide), Q_HB, Q_HO183, Q_HA_HO183, Q_HI172_e5, Q_X6_⟩
             exact steps_nil
            rintro b a w31 hall ⟨v182, adz_v182, m6_, ha, Q_HI172, Q_HB, Q_HO183, Q_HA_HO183, Q_HI172_e5, Q_X6_⟩
            clear HB HI172
            have hb2_ := hall 2 (by kernel_rfl)
            have hb3_ := hall 3 (by kernel_rfl)
            have hb5_ := hall 5 (by kernel_rfl)
            have hb6_ := hall 6 (by kernel_rfl)
            have hb7_ := hall 7 (by kernel_rfl)
            have hb8_ := hall 8 (by kernel_rfl)
            have hb11_ := hall 11 (by kernel_rfl)
            have hb12_ := hall 12 (by kernel_rfl)
            have hb13_ := hall 13 (by kernel_rfl)
            have hb14_ := hall 14 (by kernel_rfl)
            subst ha
            obtain rfl := Q_X6_ hb6_
            simp only [putSel, hb2_, hb3_, hb5_, hb6_, hb7_, hb8_, hb11_, hb12_, hb13_, hb14_, if_true, Act.put, List.setIfInBounds_toArray, List.set_cons_zero, List.set_cons_succ]
            clear Q_HI172
            have HB := Aside0.mk Q_HB
            clear Q_HB
            have HO183 := Aside0.mk (Q_HO183 hb3_)
            clear Q_HO183
            have HA_HO183 := Aside0.mk (Q_HA_HO183 hb3_)
            clear Q_HA_HO183
            have HI172 := Aside0.mk (Q_HI172_e5 hb5_)
            clear Q_HI172_e5
            clear hall hb2_ hb3_ hb5_ hb6_ hb7_ hb8_ hb11_ hb12_ hb13_ hb14_
            obtain ⟨co32, eo32⟩ := HA_HO183.out
            clear HA_HO183
            subst eo32
            try go_wp2
            go_ret
            exact ⟨by first | rfl | (simp [errW_none, errW_some] <;> rfl) | (simp only [← hji21]; first | rfl | (simp [errW_none, errW_some] <;> rfl)) | (simp [*, errW_none, errW_some] <;> rfl), by repeat (first | (with_reducible first | exact HB.out | apply below_alloc | apply pw_below_drewN | apply below_drew1 | refine below_set ?_ (IsS70.ge HI172.out)) | exact HB.out)⟩
           ·
            rw [if_neg c24] at H
            exact absurd H (by simp)
          ·
           rw [if_neg c23] at H
           exact absurd H (by simp)
         ·
          rw [if_neg c22] at H
          exact absurd H (by simp)
        ·
         rw [if_neg c20] at H
         exact absurd H (by simp)
       ·
        rw [if_neg c19] at H
        exact absurd H (by simp)
      ·
       rw [if_neg c18] at H
       exact absurd H (by simp)
     ·
      rw [if_neg c16] at H
      exact absurd H (by simp)
    ·
     rw [if_neg c15] at H
     exact absurd H (by simp)
   ·
    replace c13 := Bool.eq_false_iff.mpr c13
    subst c13
    have H1 : (some t176) = some r := by rw [if_neg (show ¬ (false = true) by decide)] at H; exact H
    clear H
    have H := H1
    clear H1
    obtain rfl := Option.some.inj H
    go_wp2
    go_ret
    exact ⟨by first | rfl | (simp [errW_none, errW_some] <;> rfl) | (simp [*, errW_none, errW_some] <;> rfl), by repeat (first | (with_reducible first | exact HB.out | apply below_alloc | apply pw_below_drewN | apply below_drew1 | refine below_set ?_ (IsS70.ge HI172.out)) | exact HB.out)⟩

end Go.Proofs.YtebihngdlokhfaaDoor.PFnReadFraction
