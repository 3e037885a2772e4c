/- Walks of functions that the law reaches (lines that the kit's print wrote, over contracts of this session's own). -/
import Derived.Test.YtebihngdlokhfaaDoorPFnNormalOfx0
import Derived.Test.YtebihngdlokhfaaDoorPFnNormalOfx1
import Derived.Test.YtebihngdlokhfaaDoorPFnNormalOfx2
import Derived.Test.YtebihngdlokhfaaDoorPFnNormalOfx5
import Derived.Test.YtebihngdlokhfaaDoorPFnNormalOfx7
import Derived.Test.YtebihngdlokhfaaDoorPFnNormalOfx9
import Derived.Test.YtebihngdlokhfaaDoorPFnNormalOfx10
namespace Go.Proofs.YtebihngdlokhfaaDoor.PFnNormalOf
open Go.RowKit Go.Proofs.YtebihngdlokhfaaDoorW.PrintWords Go.Proofs.YtebihngdlokhfaaDoorW.PrintLast Go.Proofs.YtebihngdlokhfaaDoorW.PrintMore
attribute [local go_sem] max2_int min2_int max_two min_two max_three min_three max_four min_four   -- for this text's walks alone
set_option linter.unusedVariables false
set_option linter.unusedSimpArgs false
theorem kbq11 {Q P : Prop} (q : Q) (h : Q → P := by intro q_; (with_reducible repeat (first | refine blk_drewN ?_ _ | refine blk_drew ?_ | refine blk_alloc ?_ _)); exact q_) : P := h q
theorem kf1q11 {Q P : Prop} {N0 : Prop} (q : Q) (n0 : N0) (h : Q → N0 → P := by intro q_ m0_; (with_reducible repeat (first | refine blk_drewN ?_ _ | refine blk_drew ?_ | refine blk_alloc ?_ _ | refine blk_far ?_ m0_ _)); exact q_) : P := h q n0
theorem lb0q11 {Q P : Prop} (q : Q)  (h : Q → P := by intro q_ ; repeat (first | (with_reducible first | exact q_ | apply below_alloc | apply pw_below_drewN | apply below_drew1) | exact q_)) : P := h q 
theorem lb1q11 {Q P : Prop} {N0 : Prop} (q : Q) (n0 : N0) (h : Q → N0 → P := by intro q_ m0_; repeat (first | (with_reducible first | exact q_ | apply below_alloc | apply pw_below_drewN | apply below_drew1 | refine below_set ?_ m0_) | exact q_)) : P := h q n0
theorem lb2q11 {Q P : Prop} {N0 N1 : Prop} (q : Q) (n0 : N0) (n1 : N1) (h : Q → N0 → N1 → P := by intro q_ m0_ m1_; repeat (first | (with_reducible first | exact q_ | apply below_alloc | apply pw_below_drewN | apply below_drew1 | refine below_set ?_ m0_ | refine below_set ?_ m1_) | exact q_)) : P := h q n0 n1
theorem lb3q11 {Q P : Prop} {N0 N1 N2 : Prop} (q : Q) (n0 : N0) (n1 : N1) (n2 : N2) (h : Q → N0 → N1 → N2 → P := by intro q_ m0_ m1_ m2_; repeat (first | (with_reducible first | exact q_ | apply below_alloc | apply pw_below_drewN | apply below_drew1 | refine below_set ?_ m0_ | refine below_set ?_ m1_ | refine below_set ?_ m2_) | exact q_)) : P := h q n0 n1 n2

attribute [local go_sem high] eqA34
/-! ### laws_FnNormalOf: function 5 -/
mutual
def laws_FnNormalOf.j0 : Nat → ByteArray → Bool → Bool → Int → Int → Int → Int → Option (Bool)
  | 0, _, _, _, _, _, _, _ => none
  | k + 1, x4, x5, x37, x344000, x344001, x344002, x344003 => if x37 = true then (some false) else (if x5 = true then (laws_FnNormalOf.l0 k x4 0 x344000 x344001 x344002 x344003) else ((laws_alive.f k).bind fun t348 => (some t348)))
def laws_FnNormalOf.j2 : Nat → ByteArray → Int → Int → Int → Int → Int → Option (Bool)
  | 0, _, _, _, _, _, _ => none
  | k + 1, x4, x8, x344000, x344001, x344002, x344003 => (impl_MapOf.f k x4).bind fun bt349 => (if bt349.2.2.2.2 = true then (if (!(bt349.1 == x344000) || (!(bt349.2.1 == x344001) || (!(bt349.2.2.1 == x344002) || (!(bt349.2.2.2.1 == x344003))))) = true then (laws_FnNormalOf.j3 k x4 x8 true x344000 x344001 x344002 x344003) else (laws_FnNormalOf.j3 k x4 x8 false x344000 x344001 x344002 x344003)) else (laws_FnNormalOf.j3 k x4 x8 (decide ((x4.size : Int) ≤ 40)) x344000 x344001 x344002 x344003))
def laws_FnNormalOf.j3 : Nat → ByteArray → Int → Bool → Int → Int → Int → Int → Option (Bool)
  | 0, _, _, _, _, _, _, _ => none
  | k + 1, x4, x8, x72, x344000, x344001, x344002, x344003 => if x72 = true then (some false) else (if x344002 = 0 then (some (x8 == (x4.size : Int))) else ((impl_LowestOf.f k x344000 x344002).bind fun bt355 => ((impl_DanceFor.f k bt355.1 bt355.2.1).bind fun bt359 => (if bt355.2.2 = true then (if bt359.2 = true then (if x8 < (x4.size : Int) then (if 0 ≤ (wrap64 (x8 + 1)) then (if (wrap64 (x8 + 1)) ≤ (x4.size : Int) then (some ((x4.extract ((wrap64 (x8 + 1)) : Int).toNat x4.size).toList == bt359.1.toList)) else (none)) else (none)) else (some false)) else (some false)) else (some false)))))
def laws_FnNormalOf.l0 : Nat → ByteArray → Int → Int → Int → Int → Int → Option (Bool)
  | 0, _, _, _, _, _, _ => none
  | k + 1, x4, x8, x344000, x344001, x344002, x344003 => if x8 < (x4.size : Int) then (if 0 ≤ x8 then (if (bt x4 x8) = 82 then (laws_FnNormalOf.j2 k x4 x8 x344000 x344001 x344002 x344003) else (laws_FnNormalOf.l0 k x4 (wrap64 (x8 + 1)) x344000 x344001 x344002 x344003)) else (none)) else (laws_FnNormalOf.j2 k x4 x8 x344000 x344001 x344002 x344003)
end
def laws_FnNormalOf.f (k : Nat) (l0 : List Int) : Option (Bool) := if (l0.length : Int) > 1048576 then (some true) else ((spec_DrawNormalOf.f k l0).bind fun bt339 => ((impl_NormalOf.f k bt339.1 bt339.2.1 bt339.2.2.1 bt339.2.2.2).bind fun bt344 => ((spec_NormalOf.f k bt339.1 bt339.2.1 bt339.2.2.1 bt339.2.2.2).bind fun bt346 => (if bt344.1.toList = bt346.1.toList then (laws_FnNormalOf.j0 k bt344.1 bt344.2 (bt344.2 != bt346.2) bt339.1 bt339.2.1 bt339.2.2.1 bt339.2.2.2) else (laws_FnNormalOf.j0 k bt344.1 bt344.2 true bt339.1 bt339.2.1 bt339.2.2.1 bt339.2.2.2)))))
theorem laws_FnNormalOf.mono_l : ∀ k, (∀ y0 y1 y2 y3 y4 y5 y6, LeO (laws_FnNormalOf.j0 k y0 y1 y2 y3 y4 y5 y6) (laws_FnNormalOf.j0 (k + 1) y0 y1 y2 y3 y4 y5 y6)) ∧ (∀ y0 y1 y2 y3 y4 y5, LeO (laws_FnNormalOf.j2 k y0 y1 y2 y3 y4 y5) (laws_FnNormalOf.j2 (k + 1) y0 y1 y2 y3 y4 y5)) ∧ (∀ y0 y1 y2 y3 y4 y5 y6, LeO (laws_FnNormalOf.j3 k y0 y1 y2 y3 y4 y5 y6) (laws_FnNormalOf.j3 (k + 1) y0 y1 y2 y3 y4 y5 y6)) ∧ (∀ y0 y1 y2 y3 y4 y5, LeO (laws_FnNormalOf.l0 k y0 y1 y2 y3 y4 y5) (laws_FnNormalOf.l0 (k + 1) y0 y1 y2 y3 y4 y5))
  | 0 => ⟨fun _ _ _ _ _ _ _ r h => by simp [laws_FnNormalOf.j0] at h, fun _ _ _ _ _ _ r h => by simp [laws_FnNormalOf.j2] at h, fun _ _ _ _ _ _ _ r h => by simp [laws_FnNormalOf.j3] at h, fun _ _ _ _ _ _ r h => by simp [laws_FnNormalOf.l0] at h⟩
  | k + 1 => by
    obtain ⟨ih0, ih1, ih2, ih3⟩ := laws_FnNormalOf.mono_l k
    refine ⟨?_, ?_, ?_, ?_⟩
    · intro y0 y1 y2 y3 y4 y5 y6
      unfold laws_FnNormalOf.j0
      repeat' first
      | (with_reducible exact ih0 _ _ _ _ _ _ _)
      | (with_reducible exact ih1 _ _ _ _ _ _)
      | (with_reducible exact ih2 _ _ _ _ _ _ _)
      | (with_reducible exact ih3 _ _ _ _ _ _)
      | (with_reducible exact impl_DanceFor.mono _ _ _)
      | (with_reducible exact impl_LowestOf.mono _ _ _)
      | (with_reducible exact impl_MapOf.mono _ _)
      | (with_reducible exact impl_NormalOf.mono _ _ _ _ _)
      | (with_reducible exact laws_alive.mono _)
      | (with_reducible exact spec_DrawNormalOf.mono _ _)
      | (with_reducible exact spec_NormalOf.mono _ _ _ _ _)
      | (with_reducible exact LeO.refl _)
      | (with_reducible exact LeO.none _)
      | (with_reducible refine LeO.ite ?_ ?_)
      | (with_reducible refine LeO.bind ?_ (fun _ => ?_))
      | exact ih0 _ _ _ _ _ _ _
      | exact ih1 _ _ _ _ _ _
      | exact ih2 _ _ _ _ _ _ _
      | exact ih3 _ _ _ _ _ _
      | exact impl_DanceFor.mono _ _ _
      | exact impl_LowestOf.mono _ _ _
      | exact impl_MapOf.mono _ _
      | exact impl_NormalOf.mono _ _ _ _ _
      | exact laws_alive.mono _
      | exact spec_DrawNormalOf.mono _ _
      | exact spec_NormalOf.mono _ _ _ _ _
      | exact LeO.none _
      | refine LeO.ite ?_ ?_
      | refine LeO.bind ?_ (fun _ => ?_)
    · intro y0 y1 y2 y3 y4 y5
      unfold laws_FnNormalOf.j2
      repeat' first
      | (with_reducible exact ih0 _ _ _ _ _ _ _)
      | (with_reducible exact ih1 _ _ _ _ _ _)
      | (with_reducible exact ih2 _ _ _ _ _ _ _)
      | (with_reducible exact ih3 _ _ _ _ _ _)
      | (with_reducible exact impl_DanceFor.mono _ _ _)
      | (with_reducible exact impl_LowestOf.mono _ _ _)
      | (with_reducible exact impl_MapOf.mono _ _)
      | (with_reducible exact impl_NormalOf.mono _ _ _ _ _)
      | (with_reducible exact laws_alive.mono _)
      | (with_reducible exact spec_DrawNormalOf.mono _ _)
      | (with_reducible exact spec_NormalOf.mono _ _ _ _ _)
      | (with_reducible exact LeO.refl _)
      | (with_reducible exact LeO.none _)
      | (with_reducible refine LeO.ite ?_ ?_)
      | (with_reducible refine LeO.bind ?_ (fun _ => ?_))
      | exact ih0 _ _ _ _ _ _ _
      | exact ih1 _ _ _ _ _ _
      | exact ih2 _ _ _ _ _ _ _
      | exact ih3 _ _ _ _ _ _
      | exact impl_DanceFor.mono _ _ _
      | exact impl_LowestOf.mono _ _ _
      | exact impl_MapOf.mono _ _
      | exact impl_NormalOf.mono _ _ _ _ _
      | exact laws_alive.mono _
      | exact spec_DrawNormalOf.mono _ _
      | exact spec_NormalOf.mono _ _ _ _ _
      | exact LeO.none _
      | refine LeO.ite ?_ ?_
      | refine LeO.bind ?_ (fun _ => ?_)
    · intro y0 y1 y2 y3 y4 y5 y6
      unfold laws_FnNormalOf.j3
      repeat' first
      | (with_reducible exact ih0 _ _ _ _ _ _ _)
      | (with_reducible exact ih1 _ _ _ _ _ _)
      | (with_reducible exact ih2 _ _ _ _ _ _ _)
      | (with_reducible exact ih3 _ _ _ _ _ _)
      | (with_reducible exact impl_DanceFor.mono _ _ _)
      | (with_reducible exact impl_LowestOf.mono _ _ _)
      | (with_reducible exact impl_MapOf.mono _ _)
      | (with_reducible exact impl_NormalOf.mono _ _ _ _ _)
      | (with_reducible exact laws_alive.mono _)
      | (with_reducible exact spec_DrawNormalOf.mono _ _)
      | (with_reducible exact spec_NormalOf.mono _ _ _ _ _)
      | (with_reducible exact LeO.refl _)
      | (with_reducible exact LeO.none _)
      | (with_reducible refine LeO.ite ?_ ?_)
      | (with_reducible refine LeO.bind ?_ (fun _ => ?_))
      | exact ih0 _ _ _ _ _ _ _
      | exact ih1 _ _ _ _ _ _
      | exact ih2 _ _ _ _ _ _ _
      | exact ih3 _ _ _ _ _ _
      | exact impl_DanceFor.mono _ _ _
      | exact impl_LowestOf.mono _ _ _
      | exact impl_MapOf.mono _ _
      | exact impl_NormalOf.mono _ _ _ _ _
      | exact laws_alive.mono _
      | exact spec_DrawNormalOf.mono _ _
      | exact spec_NormalOf.mono _ _ _ _ _
      | exact LeO.none _
      | refine LeO.ite ?_ ?_
      | refine LeO.bind ?_ (fun _ => ?_)
    · intro y0 y1 y2 y3 y4 y5
      unfold laws_FnNormalOf.l0
      repeat' first
      | (with_reducible exact ih0 _ _ _ _ _ _ _)
      | (with_reducible exact ih1 _ _ _ _ _ _)
      | (with_reducible exact ih2 _ _ _ _ _ _ _)
      | (with_reducible exact ih3 _ _ _ _ _ _)
      | (with_reducible exact impl_DanceFor.mono _ _ _)
      | (with_reducible exact impl_LowestOf.mono _ _ _)
      | (with_reducible exact impl_MapOf.mono _ _)
      | (with_reducible exact impl_NormalOf.mono _ _ _ _ _)
      | (with_reducible exact laws_alive.mono _)
      | (with_reducible exact spec_DrawNormalOf.mono _ _)
      | (with_reducible exact spec_NormalOf.mono _ _ _ _ _)
      | (with_reducible exact LeO.refl _)
      | (with_reducible exact LeO.none _)
      | (with_reducible refine LeO.ite ?_ ?_)
      | (with_reducible refine LeO.bind ?_ (fun _ => ?_))
      | exact ih0 _ _ _ _ _ _ _
      | exact ih1 _ _ _ _ _ _
      | exact ih2 _ _ _ _ _ _ _
      | exact ih3 _ _ _ _ _ _
      | exact impl_DanceFor.mono _ _ _
      | exact impl_LowestOf.mono _ _ _
      | exact impl_MapOf.mono _ _
      | exact impl_NormalOf.mono _ _ _ _ _
      | exact laws_alive.mono _
      | exact spec_DrawNormalOf.mono _ _
      | exact spec_NormalOf.mono _ _ _ _ _
      | exact LeO.none _
      | refine LeO.ite ?_ ?_
      | refine LeO.bind ?_ (fun _ => ?_)
theorem laws_FnNormalOf.mono : ∀ a0 k, LeO (laws_FnNormalOf.f k a0) (laws_FnNormalOf.f (k + 1) a0) := by
  intro a0 k
  obtain ⟨ih0, ih1, ih2, ih3⟩ := laws_FnNormalOf.mono_l k
  unfold laws_FnNormalOf.f
  repeat' first
      | (with_reducible exact ih0 _ _ _ _ _ _ _)
      | (with_reducible exact ih1 _ _ _ _ _ _)
      | (with_reducible exact ih2 _ _ _ _ _ _ _)
      | (with_reducible exact ih3 _ _ _ _ _ _)
      | (with_reducible exact impl_DanceFor.mono _ _ _)
      | (with_reducible exact impl_LowestOf.mono _ _ _)
      | (with_reducible exact impl_MapOf.mono _ _)
      | (with_reducible exact impl_NormalOf.mono _ _ _ _ _)
      | (with_reducible exact laws_alive.mono _)
      | (with_reducible exact spec_DrawNormalOf.mono _ _)
      | (with_reducible exact spec_NormalOf.mono _ _ _ _ _)
      | (with_reducible exact LeO.refl _)
      | (with_reducible exact LeO.none _)
      | (with_reducible refine LeO.ite ?_ ?_)
      | (with_reducible refine LeO.bind ?_ (fun _ => ?_))
      | exact ih0 _ _ _ _ _ _ _
      | exact ih1 _ _ _ _ _ _
      | exact ih2 _ _ _ _ _ _ _
      | exact ih3 _ _ _ _ _ _
      | exact impl_DanceFor.mono _ _ _
      | exact impl_LowestOf.mono _ _ _
      | exact impl_MapOf.mono _ _
      | exact impl_NormalOf.mono _ _ _ _ _
      | exact laws_alive.mono _
      | exact spec_DrawNormalOf.mono _ _
      | exact spec_NormalOf.mono _ _ _ _ _
      | exact LeO.none _
      | refine LeO.ite ?_ ?_
      | refine LeO.bind ?_ (fun _ => ?_)
set_option maxHeartbeats 8000000 in
set_option maxRecDepth 100000 in
theorem laws_FnNormalOf.calls (k : Nat) (A0 : Option Addr) (c0 : Nat) (l0 : List Int) (r : Bool) (w : World) (hr0 : Kd.C (Kd.int .u8) w A0 l0.length l0) (hc0 : l0.length ≤ c0) (h : laws_FnNormalOf.f k l0 = some r) :
  Calls Tryd.prog 5 #[.slice A0 l0.length c0] w fun e w' => e = .returned (.bool r) ∧ Below w.heap.size w w' := by
 have hu34 := Tryd.underlying34
 have hu24 := Tryd.underlying24
 have HR0 := Aside0.mk hr0
 have HC0 := Aside0.mk hc0
 clear hr0 hc0
 have HB := Aside0.mk (Below.refl w.heap.size w)
 have H : (if (l0.length : Int) > 1048576 then (some true) else ((spec_DrawNormalOf.f k l0).bind fun bt339 => ((impl_NormalOf.f k bt339.1 bt339.2.1 bt339.2.2.1 bt339.2.2.2).bind fun bt344 => ((spec_NormalOf.f k bt339.1 bt339.2.1 bt339.2.2.1 bt339.2.2.2).bind fun bt346 => (if bt344.1.toList = bt346.1.toList then (laws_FnNormalOf.j0 k bt344.1 bt344.2 (bt344.2 != bt346.2) bt339.1 bt339.2.1 bt339.2.2.1 bt339.2.2.2) else (laws_FnNormalOf.j0 k bt344.1 bt344.2 true bt339.1 bt339.2.1 bt339.2.2.1 bt339.2.2.2)))))) = some r := h
 clear h
 by_cases c2 : (l0.length : Int) > 1048576
 ·
  rw [if_pos c2] at H
  have c2b0 : decide (1048576 < (l0.length : Int)) = true := decide_eq_true c2
  have c2b1 : decide (1048576 < l0.length) = true := decide_eq_true (by omega)
  clear c2
  obtain rfl := Option.some.inj H
  go_enter Tryd.func5, Tryd.ntmps5
  go_wp2
  go_ret
  exact ⟨by first | rfl | (simp [errW_none, errW_some] <;> rfl) | (simp [*, errW_none, errW_some] <;> rfl), by repeat (first | (with_reducible first | exact HB.out | apply below_alloc | apply pw_below_drewN | apply below_drew1) | exact HB.out)⟩
 ·
  rw [if_neg c2] at H
  have c2b0 : decide (1048576 < (l0.length : Int)) = false := decide_eq_false c2
  have c2b1 : decide (1048576 < l0.length) = false := decide_eq_false (by omega)
  clear c2
  replace H := Option.bind_eq_some_iff.mp H
  obtain ⟨⟨t339, t340, t341, t342⟩, A30, H⟩ := H
  replace H : ((impl_NormalOf.f k t339 t340 t341 t342).bind fun bt344 => ((spec_NormalOf.f k t339 t340 t341 t342).bind fun bt346 => (if bt344.1.toList = bt346.1.toList then (laws_FnNormalOf.j0 k bt344.1 bt344.2 (bt344.2 != bt346.2) t339 t340 t341 t342) else (laws_FnNormalOf.j0 k bt344.1 bt344.2 true t339 t340 t341 t342)))) = some r := H
  have A3 := Aside0.mk A30
  clear A30
  replace H := Option.bind_eq_some_iff.mp H
  obtain ⟨⟨t344, t345⟩, A40, H⟩ := H
  replace H : ((spec_NormalOf.f k t339 t340 t341 t342).bind fun bt346 => (if t344.toList = bt346.1.toList then (laws_FnNormalOf.j0 k t344 t345 (t345 != bt346.2) t339 t340 t341 t342) else (laws_FnNormalOf.j0 k t344 t345 true t339 t340 t341 t342))) = some r := H
  have A4 := Aside0.mk A40
  clear A40
  replace H := Option.bind_eq_some_iff.mp H
  obtain ⟨⟨t346, t347⟩, A50, H⟩ := H
  replace H : (if t344.toList = t346.toList then (laws_FnNormalOf.j0 k t344 t345 (t345 != t347) t339 t340 t341 t342) else (laws_FnNormalOf.j0 k t344 t345 true t339 t340 t341 t342)) = some r := H
  have A5 := Aside0.mk A50
  clear A50
  have HC6 := Aside0.mk H
  clear H
  go_enter Tryd.func5, Tryd.ntmps5
  go_upto_region 6 with (first | ((with_reducible refine gate_callee (f := 14) rfl ?_); refine goesL_ (some 19) rfl rfl Tryd.func14 (by kernel_rfl) rfl #[.slice A0 l0.length c0] rfl (by (try simp only [List.map_toArray, List.map_cons, List.map_nil]); first | done | rfl | (simp only [List.length_drop, List.length_take]; rfl)) ?_; (with_reducible refine (spec_DrawNormalOf.calls k _ _ l0 t339 t340 t341 t342 _ ?side1 ?side2 A3.out).mono ?_); (case side1 => repeat (first | exact HR0.out | (with_reducible refine Kd.C_alloc ?_ _) | (with_reducible refine Kd.C_drewN ?_ _) | (with_reducible refine Kd.C_drew ?_))); (case side2 => exact HC0.out); rintro e w7 ⟨rfl, hb⟩; refine ⟨_, rfl, ?_⟩; have n0_ := Aside0.mk (below_step (lb0q11 HB.out) hb); clear HB; have HB := n0_; clear n0_; (try clear hb); (try clear hb2); (try clear hk); (try clear hi)) | ((with_reducible refine gate_dst (N := 3) rfl ?_); (try (refine gate_guard (by rfl) ?_; dsimp only)); refine box_event ?hg (N := 3) ?hd (cs := #[.int .i64 0, .int .i64 0, .int .i64 0, .int .i64 0]) (t := 34) ?hr ?_; (case hd => rfl); (case hg => rfl); (case hr => first | (go_simp; done) | (go_simp; rfl)); intro gb343 hg w8 hbox hb; have n0_ := Aside0.mk (below_step (lb0q11 HB.out) hb); have n1_ := Aside0.mk (hbox); have n2_ := Aside0.mk ((by rw [hg]; exact (below_size (lb0q11 HB.out)) : w.heap.size ≤ gb343)); have n3_ := Aside0.mk ((by rw [hg]; exact (below_size (lb0q11 HB.out)) : w.heap.size ≤ gb343)); clear HB; have HB := n0_; have BK343 := n1_; have GW343 := n2_; have GE343 := n3_; clear n0_ n1_ n2_ n3_; clear hb hbox hg; have hcz9_0 : w8.cell? ⟨gb343, 0, none⟩ = some (.int .i64 0) := (blk_cell BK343.out 0).trans rfl; have hcz9_1 : w8.cell? ⟨gb343, 1, none⟩ = some (.int .i64 0) := (blk_cell BK343.out 1).trans rfl; have hcz9_2 : w8.cell? ⟨gb343, 2, none⟩ = some (.int .i64 0) := (blk_cell BK343.out 2).trans rfl; have hcz9_3 : w8.cell? ⟨gb343, 3, none⟩ = some (.int .i64 0) := (blk_cell BK343.out 3).trans rfl; have hfz9_0 := blk_frozen BK343.out 0; have hfz9_1 := blk_frozen BK343.out 1; have hfz9_2 := blk_frozen BK343.out 2; have hfz9_3 := blk_frozen BK343.out 3) | ((with_reducible refine gate_callee (f := 15) rfl ?_); refine goesL_ (some 22) rfl rfl Tryd.func15 (by kernel_rfl) rfl #[.agg #[.int .i64 t339, .int .i64 t340, .int .i64 t341, .int .i64 t342]] rfl (by (try simp only [List.map_toArray, List.map_cons, List.map_nil]); first | done | rfl | (simp only [List.length_drop, List.length_take]; rfl)) ?_; (with_reducible refine (impl_NormalOf.calls k t339 t340 t341 t342 t344 t345 _ A4.out).mono ?_); rintro e w10 ⟨rfl, hb⟩; refine ⟨_, rfl, ?_⟩; have n0_ := Aside0.mk (blk_below (g := gb343) (o := .cells #[.int .i64 t339, .int .i64 t340, .int .i64 t341, .int .i64 t342] 34 (0, 0)) (by (with_reducible repeat (first | refine blk_drewN ?_ _ | refine blk_drew ?_ | refine blk_alloc ?_ _)); refine blk_put (cs := #[.int .i64 t339, .int .i64 t340, .int .i64 t341, .int .i64 0]) ?_ 3 _ rfl; (with_reducible repeat (first | refine blk_drewN ?_ _ | refine blk_drew ?_ | refine blk_alloc ?_ _)); refine blk_put (cs := #[.int .i64 t339, .int .i64 t340, .int .i64 0, .int .i64 0]) ?_ 2 _ rfl; (with_reducible repeat (first | refine blk_drewN ?_ _ | refine blk_drew ?_ | refine blk_alloc ?_ _)); refine blk_put (cs := #[.int .i64 t339, .int .i64 0, .int .i64 0, .int .i64 0]) ?_ 1 _ rfl; (with_reducible repeat (first | refine blk_drewN ?_ _ | refine blk_drew ?_ | refine blk_alloc ?_ _)); refine blk_put (cs := #[.int .i64 0, .int .i64 0, .int .i64 0, .int .i64 0]) ?_ 0 _ rfl; (with_reducible repeat (first | refine blk_drewN ?_ _ | refine blk_drew ?_ | refine blk_alloc ?_ _)); exact BK343.out) hb); have n1_ := Aside0.mk (below_step (lb1q11 HB.out GE343.out) hb); clear BK343; clear HB; have BK343 := n0_; have HB := n1_; clear n0_ n1_; (try clear hb); (try clear hb2); (try clear hk); (try clear hi); have hcz11_0 : w10.cell? ⟨gb343, 0, none⟩ = some (.int .i64 t339) := (blk_cell BK343.out 0).trans rfl; have hcz11_1 : w10.cell? ⟨gb343, 1, none⟩ = some (.int .i64 t340) := (blk_cell BK343.out 1).trans rfl; have hcz11_2 : w10.cell? ⟨gb343, 2, none⟩ = some (.int .i64 t341) := (blk_cell BK343.out 2).trans rfl; have hcz11_3 : w10.cell? ⟨gb343, 3, none⟩ = some (.int .i64 t342) := (blk_cell BK343.out 3).trans rfl; have hfz11_0 := blk_frozen BK343.out 0; have hfz11_1 := blk_frozen BK343.out 1; have hfz11_2 := blk_frozen BK343.out 2; have hfz11_3 := blk_frozen BK343.out 3) | ((with_reducible refine gate_callee (f := 16) rfl ?_); refine goesL_ (some 27) rfl rfl Tryd.func16 (by kernel_rfl) rfl #[.agg #[.int .i64 t339, .int .i64 t340, .int .i64 t341, .int .i64 t342]] rfl (by (try simp only [List.map_toArray, List.map_cons, List.map_nil]); first | done | rfl | (simp only [List.length_drop, List.length_take]; rfl)) ?_; (with_reducible refine (spec_NormalOf.calls k t339 t340 t341 t342 t346 t347 _ A5.out).mono ?_); rintro e w12 ⟨rfl, hb⟩; refine ⟨_, rfl, ?_⟩; have n0_ := Aside0.mk (blk_below (g := gb343) (o := .cells #[.int .i64 t339, .int .i64 t340, .int .i64 t341, .int .i64 t342] 34 (0, 0)) (kbq11 BK343.out) hb); have n1_ := Aside0.mk (below_step (lb1q11 HB.out GE343.out) hb); clear BK343; clear HB; have BK343 := n0_; have HB := n1_; clear n0_ n1_; (try clear hb); (try clear hb2); (try clear hk); (try clear hi)))
  (try simp only [Act.put, List.setIfInBounds_toArray, List.set_cons_zero, List.set_cons_succ])
  go_cut [37] (fun v37 wc => ∃ (kq : Nat) (x37_5 : Bool), v37 = .bool x37_5 ∧ Aside0 (laws_FnNormalOf.j0 kq t344 t345 x37_5 t339 t340 t341 t342 = some r) ∧ Aside0 (kq ≤ k) ∧ Aside0 (wc.heap[gb343]? = some (.cells #[.int .i64 t339, .int .i64 t340, .int .i64 t341, .int .i64 t342] 34 (0, 0))) ∧ Aside0 (Below w.heap.size w wc))
  case first =>
   have H := HC6.out
   clear HC6
   by_cases c13 : t344.toList = t346.toList
   ·
    rw [if_pos c13] at H
    have c13b0 : (t344.toList == t346.toList) = true := beq_iff_eq.mpr c13
    have c13b1 : (t344.toList != t346.toList) = false := bne_eq_false_iff_eq.mpr c13
    clear c13
    (first | rw [c13b0] | (simp only [i64_w, i32_w]; rw [c13b0]) | skip)
    have H' := Aside0.mk H
    clear H
    go_wp2
    go_meet
    case rel => exact ⟨_, ((t345 != t347)), (by first | rfl | (simp; done) | (simp [*]; done)), H', ⟨by first | omega | exact Nat.le_refl _⟩, ⟨kbq11 BK343.out⟩, ⟨lb1q11 HB.out GE343.out⟩⟩
   ·
    rw [if_neg c13] at H
    have c13b0 : (t344.toList == t346.toList) = false := beq_eq_false_iff_ne.mpr c13
    have c13b1 : (t344.toList != t346.toList) = true := bne_iff_ne.mpr c13
    (first | rw [c13b0] | (simp only [i64_w, i32_w]; rw [c13b0]) | skip)
    have H' := Aside0.mk H
    clear H
    go_wp2
    go_meet
    case rel => exact ⟨_, (true), (by first | rfl | (simp; done) | (simp [*]; done)), H', ⟨by first | omega | exact Nat.le_refl _⟩, ⟨kbq11 BK343.out⟩, ⟨lb1q11 HB.out GE343.out⟩⟩
  case rest =>
   clear HC6; (try clear c1); (try clear c2); (try clear c2b0); (try clear c2b1); (try clear p2); (try clear c5); (try clear c13); (try clear c13b0); (try clear c13b1); (try clear hcz11_0); (try clear hcz11_1); (try clear hcz11_2); (try clear hcz11_3); (try clear hcz9_0); (try clear hcz9_1); (try clear hcz9_2); (try clear hcz9_3); (try clear hfz11_0); (try clear hfz11_1); (try clear hfz11_2); (try clear hfz11_3); (try clear hfz9_0); (try clear hfz9_1); (try clear hfz9_2); (try clear hfz9_3)
   obtain ⟨kq, x37_5, rfl, HA, HJ5, BK343, HB⟩ := hcut
   cases kq with
   | zero => exact absurd HA.out (by simp [laws_FnNormalOf.j0])
   | succ kj5 =>
    have H := HA.out
    clear HA
    simp only [laws_FnNormalOf.j0] at H
    by_cases c14 : x37_5 = true
    ·
     subst c14
     have H1 : (some false) = some r := by rw [if_pos rfl] at H; exact H
     clear H
     have H := H1
     clear H1
     obtain rfl := Option.some.inj H
     go_wp2
     go_ret
     exact ⟨by first | rfl | (simp [errW_none, errW_some] <;> rfl) | (simp [*, errW_none, errW_some] <;> rfl), by repeat (first | (with_reducible first | exact HB.out | apply below_alloc | apply pw_below_drewN | apply below_drew1 | refine below_set ?_ GE343.out) | exact HB.out)⟩
    ·
     replace c14 := Bool.eq_false_iff.mpr c14
     subst c14
     have H1 : (if t345 = true then (laws_FnNormalOf.l0 kj5 t344 0 t339 t340 t341 t342) else ((laws_alive.f kj5).bind fun t348 => (some t348))) = some r := by rw [if_neg (show ¬ (false = true) by decide)] at H; exact H
     clear H
     have H := H1
     clear H1
     by_cases c15 : t345 = true
     ·
      subst c15
      have H1 : (laws_FnNormalOf.l0 kj5 t344 0 t339 t340 t341 t342) = some r := by rw [if_pos rfl] at H; exact H
      clear H
      have H := H1
      clear H1
      have HC16 := Aside0.mk H
      clear H
      go_upto_block 0 with (fail)
      go_cut [8] (fun v8 wc => ∃ (kq : Nat) (x8_15 : Int), v8 = .int .i64 x8_15 ∧ Aside0 (laws_FnNormalOf.j2 kq t344 x8_15 t339 t340 t341 t342 = some r) ∧ Aside0 (kq ≤ kj5) ∧ Aside0 (wc.heap[gb343]? = some (.cells #[.int .i64 t339, .int .i64 t340, .int .i64 t341, .int .i64 t342] 34 (0, 0))) ∧ Aside0 (Below w.heap.size w wc))
      case first =>
       have H := HC16.out
       clear HC16
       have H' := Aside0.mk H
       clear H
       go_wp2
       go_loopg [8] kj5 (fun kq v8 w' => ∃ (x8_2 : Int), v8 = .int .i64 x8_2 ∧ Aside0 (laws_FnNormalOf.l0 kq t344 x8_2 t339 t340 t341 t342 = some r) ∧ Aside0 (kq ≤ kj5) ∧ Aside0 (w'.heap[gb343]? = some (.cells #[.int .i64 t339, .int .i64 t340, .int .i64 t341, .int .i64 t342] 34 (0, 0))) ∧ Aside0 (Below w.heap.size w w'))
       case atStart => exact ⟨(0), (by first | rfl | (simp; done) | (simp [*]; done)), H', ⟨Nat.le_refl _⟩, ⟨kbq11 BK343.out⟩, ⟨lb1q11 HB.out GE343.out⟩⟩
       case round =>
        clear H'; (try clear c1); (try clear c2); (try clear c2b0); (try clear c2b1); (try clear p2); (try clear c5); (try clear c13); (try clear c13b0); (try clear c13b1); (try clear c14); (try clear c15); (try clear c16); (try clear hcz11_0); (try clear hcz11_1); (try clear hcz11_2); (try clear hcz11_3); (try clear hcz9_0); (try clear hcz9_1); (try clear hcz9_2); (try clear hcz9_3); (try clear hfz11_0); (try clear hfz11_1); (try clear hfz11_2); (try clear hfz11_3); (try clear hfz9_0); (try clear hfz9_1); (try clear hfz9_2); (try clear hfz9_3); (try clear p2)
        obtain ⟨x8_2, rfl, HA, HK2, BK343, HB⟩ := hrel
        cases gk with
        | zero => exact absurd HA.out (by simp [laws_FnNormalOf.l0])
        | succ k2 =>
         have H := HA.out
         clear HA
         simp only [laws_FnNormalOf.l0] at H
         by_cases c17 : x8_2 < (t344.size : Int)
         ·
          rw [if_pos c17] at H
          have c17b0 : decide (x8_2 < (t344.size : Int)) = true := decide_eq_true c17
          clear c17
          (first | rw [c17b0] | (simp only [i64_w, i32_w]; rw [c17b0]) | skip)
          by_cases c18 : 0 ≤ x8_2
          ·
           rw [if_pos c18] at H
           have c18b0 : decide (0 ≤ x8_2) = true := decide_eq_true c18
           clear c18
           by_cases c20 : (bt t344 x8_2) = 82
           ·
            rw [if_pos c20] at H
            have c20b0 : ((bt t344 x8_2) == 82) = true := beq_iff_eq.mpr c20
            have c20b1 : ((bt t344 x8_2) != 82) = false := bne_eq_false_iff_eq.mpr c20
            clear c20
            have H' := Aside0.mk H
            clear H
            have p19 : 0 ≤ (x8_2 : Int) := of_decide_eq_true (by first | (with_reducible assumption) | assumption)
            have q19 : x8_2 < (t344.size : Int) := of_decide_eq_true (by first | (with_reducible assumption) | assumption)
            have hx19 := bt_at t344 x8_2
            replace p19 := eq_true p19
            replace q19 := eq_true q19
            go_wp2
            go_meet
            case rel => exact ⟨_, (x8_2), (by first | rfl | (simp; done) | (simp [*]; done)), H', ⟨by have := HJ5.out; have := HK2.out; first | omega | exact Nat.le_refl _⟩, ⟨kbq11 BK343.out⟩, ⟨lb1q11 HB.out GE343.out⟩⟩
           ·
            rw [if_neg c20] at H
            have c20b0 : ((bt t344 x8_2) == 82) = false := beq_eq_false_iff_ne.mpr c20
            have c20b1 : ((bt t344 x8_2) != 82) = true := bne_iff_ne.mpr c20
            have H' := Aside0.mk H
            clear H
            have p19 : 0 ≤ (x8_2 : Int) := of_decide_eq_true (by first | (with_reducible assumption) | assumption)
            have q19 : x8_2 < (t344.size : Int) := of_decide_eq_true (by first | (with_reducible assumption) | assumption)
            have hx19 := bt_at t344 x8_2
            replace p19 := eq_true p19
            replace q19 := eq_true q19
            go_wp2
            go_roundg k2
            case measure => have := HJ5.out; have := HK2.out; omega
            case rel => exact ⟨(wrap64 (x8_2 + 1)), (by first | rfl | (simp; done) | (simp [*]; done)), H', ⟨by have := HJ5.out; have := HK2.out; omega⟩, ⟨kbq11 BK343.out⟩, ⟨lb1q11 HB.out GE343.out⟩⟩
          ·
           rw [if_neg c18] at H
           exact absurd H (by simp)
         ·
          rw [if_neg c17] at H
          have c17b0 : decide (x8_2 < (t344.size : Int)) = false := decide_eq_false c17
          clear c17
          (first | rw [c17b0] | (simp only [i64_w, i32_w]; rw [c17b0]) | skip)
          have H' := Aside0.mk H
          clear H
          go_wp2
          go_meet
          case rel => exact ⟨_, (x8_2), (by first | rfl | (simp; done) | (simp [*]; done)), H', ⟨by have := HJ5.out; have := HK2.out; first | omega | exact Nat.le_refl _⟩, ⟨kbq11 BK343.out⟩, ⟨lb1q11 HB.out GE343.out⟩⟩
      case rest =>
       clear HC16; (try clear c1); (try clear p1); (try clear q1); (try clear hx1); (try clear c2); (try clear c2b0); (try clear c2b1); (try clear p2); (try clear c5); (try clear p6); (try clear c13); (try clear c13b0); (try clear c13b1); (try clear c14); (try clear c15); (try clear c16); (try clear c17); (try clear c17b0); (try clear c18); (try clear c18b0); (try clear p19); (try clear q19); (try clear hx19); (try clear c20); (try clear c20b0); (try clear c20b1); (try clear hcz11_0); (try clear hcz11_1); (try clear hcz11_2); (try clear hcz11_3); (try clear hcz9_0); (try clear hcz9_1); (try clear hcz9_2); (try clear hcz9_3); (try clear hfz11_0); (try clear hfz11_1); (try clear hfz11_2); (try clear hfz11_3); (try clear hfz9_0); (try clear hfz9_1); (try clear hfz9_2); (try clear hfz9_3); (try clear p19); (try clear p2); (try clear q19)
       obtain ⟨kq, x8_15, rfl, HA, HJ15, BK343, HB⟩ := hcut
       cases kq with
       | zero => exact absurd HA.out (by simp [laws_FnNormalOf.j2])
       | succ kj15 =>
        have H := HA.out
        clear HA
        simp only [laws_FnNormalOf.j2] at H
        replace H := Option.bind_eq_some_iff.mp H
        obtain ⟨⟨t349, t350, t351, t352, t353⟩, A210, H⟩ := H
        replace H : (if t353 = true then (if (!(t349 == t339) || (!(t350 == t340) || (!(t351 == t341) || (!(t352 == t342))))) = true then (laws_FnNormalOf.j3 kj15 t344 x8_15 true t339 t340 t341 t342) else (laws_FnNormalOf.j3 kj15 t344 x8_15 false t339 t340 t341 t342)) else (laws_FnNormalOf.j3 kj15 t344 x8_15 (decide ((t344.size : Int) ≤ 40)) t339 t340 t341 t342)) = some r := H
        have A21 := Aside0.mk A210
        clear A210
        have HC22 := Aside0.mk H
        clear H
        go_upto_region 14 with (first | ((with_reducible refine gate_callee (f := 17) rfl ?_); refine goesL_ (some 55) rfl rfl Tryd.func17 (by kernel_rfl) rfl #[.string t344] rfl (by (try simp only [List.map_toArray, List.map_cons, List.map_nil]); first | done | rfl | (simp only [List.length_drop, List.length_take]; rfl)) ?_; (with_reducible refine (impl_MapOf.calls kj15 t344 t349 t350 t351 t352 t353 _ A21.out).mono ?_); rintro e w23 ⟨rfl, hb⟩; refine ⟨_, rfl, ?_⟩; have n0_ := Aside0.mk (blk_below (g := gb343) (o := .cells #[.int .i64 t339, .int .i64 t340, .int .i64 t341, .int .i64 t342] 34 (0, 0)) (kbq11 BK343.out) hb); have n1_ := Aside0.mk (below_step (lb1q11 HB.out GE343.out) hb); clear BK343; clear HB; have BK343 := n0_; have HB := n1_; clear n0_ n1_; (try clear hb); (try clear hb2); (try clear hk); (try clear hi)) | ((with_reducible refine gate_dst (N := 9) rfl ?_); (try (refine gate_guard (by rfl) ?_; dsimp only)); refine box_event ?hg (N := 9) ?hd (cs := #[.int .i64 0, .int .i64 0, .int .i64 0, .int .i64 0]) (t := 34) ?hr ?_; (case hd => rfl); (case hg => rfl); (case hr => first | (go_simp; done) | (go_simp; rfl)); intro gb354 hg w24 hbox hb; have n0_ := Aside0.mk (blk_below (g := gb343) (o := .cells #[.int .i64 t339, .int .i64 t340, .int .i64 t341, .int .i64 t342] 34 (0, 0)) (kbq11 BK343.out) hb); have n1_ := Aside0.mk (below_step (lb1q11 HB.out GE343.out) hb); have n2_ := Aside0.mk (hbox); have n3_ := Aside0.mk ((by rw [hg]; exact (below_size (lb1q11 HB.out GE343.out)) : w.heap.size ≤ gb354)); have n4_ := Aside0.mk ((by rw [hg]; exact (below_size (lb1q11 HB.out GE343.out)) : w.heap.size ≤ gb354)); have n5_ := Aside0.mk ((by rw [hg]; exact Nat.ne_of_lt (blk_lt (g := gb343) (o := .cells #[.int .i64 t339, .int .i64 t340, .int .i64 t341, .int .i64 t342] 34 (0, 0)) (kbq11 BK343.out)) : gb343 ≠ gb354)); have n6_ := Aside0.mk ((by rw [hg]; exact Nat.ne_of_gt (blk_lt (g := gb343) (o := .cells #[.int .i64 t339, .int .i64 t340, .int .i64 t341, .int .i64 t342] 34 (0, 0)) (kbq11 BK343.out)) : gb354 ≠ gb343)); clear BK343; clear HB; have BK343 := n0_; have HB := n1_; have BK354 := n2_; have GW354 := n3_; have GE354 := n4_; have NB343_354 := n5_; have NB354_343 := n6_; clear n0_ n1_ n2_ n3_ n4_ n5_ n6_; clear hb hbox hg; have hnb25 := NB354_343.out; have hnc25 := NB343_354.out; have hcz26_0 : w24.cell? ⟨gb354, 0, none⟩ = some (.int .i64 0) := (blk_cell BK354.out 0).trans rfl; have hcz26_1 : w24.cell? ⟨gb354, 1, none⟩ = some (.int .i64 0) := (blk_cell BK354.out 1).trans rfl; have hcz26_2 : w24.cell? ⟨gb354, 2, none⟩ = some (.int .i64 0) := (blk_cell BK354.out 2).trans rfl; have hcz26_3 : w24.cell? ⟨gb354, 3, none⟩ = some (.int .i64 0) := (blk_cell BK354.out 3).trans rfl; have hfz26_0 := blk_frozen BK354.out 0; have hfz26_1 := blk_frozen BK354.out 1; have hfz26_2 := blk_frozen BK354.out 2; have hfz26_3 := blk_frozen BK354.out 3))
        (try simp only [Act.put, List.setIfInBounds_toArray, List.set_cons_zero, List.set_cons_succ])
        go_cut [72] (fun v72 wc => ∃ (kq : Nat) (x72_21 : Bool), v72 = .bool x72_21 ∧ Aside0 (laws_FnNormalOf.j3 kq t344 x8_15 x72_21 t339 t340 t341 t342 = some r) ∧ Aside0 (kq ≤ kj15) ∧ Aside0 (wc.heap[gb343]? = some (.cells #[.int .i64 t339, .int .i64 t340, .int .i64 t341, .int .i64 t342] 34 (0, 0))) ∧ Aside0 (wc.heap[gb354]? = some (.cells #[.int .i64 t349, .int .i64 t350, .int .i64 t351, .int .i64 t352] 34 (0, 0))) ∧ Aside0 (Below w.heap.size w wc))
        case first =>
         have H := HC22.out
         clear HC22
         by_cases c27 : t353 = true
         ·
          subst c27
          have H1 : (if (!(t349 == t339) || (!(t350 == t340) || (!(t351 == t341) || (!(t352 == t342))))) = true then (laws_FnNormalOf.j3 kj15 t344 x8_15 true t339 t340 t341 t342) else (laws_FnNormalOf.j3 kj15 t344 x8_15 false t339 t340 t341 t342)) = some r := by rw [if_pos rfl] at H; exact H
          clear H
          have H := H1
          clear H1
          by_cases c28 : (!(t349 == t339) || (!(t350 == t340) || (!(t351 == t341) || (!(t352 == t342))))) = true
          ·
           rw [if_pos c28] at H
           have c28b0 : (!(t349 == t339) || (!(t350 == t340) || (!(t351 == t341) || (!(t352 == t342))))) = true := c28
           clear c28
           (first | rw [c28b0] | (simp only [i64_w, i32_w]; rw [c28b0]) | skip)
           have H' := Aside0.mk H
           clear H
           have hnb29 := NB354_343.out
           have hnc29 := NB343_354.out
           have hcz30_0 : w24.cell? ⟨gb354, 0, none⟩ = some (.int .i64 0) := (blk_cell BK354.out 0).trans rfl
           have hcz30_1 : w24.cell? ⟨gb354, 1, none⟩ = some (.int .i64 0) := (blk_cell BK354.out 1).trans rfl
           have hcz30_2 : w24.cell? ⟨gb354, 2, none⟩ = some (.int .i64 0) := (blk_cell BK354.out 2).trans rfl
           have hcz30_3 : w24.cell? ⟨gb354, 3, none⟩ = some (.int .i64 0) := (blk_cell BK354.out 3).trans rfl
           have hfz30_0 := blk_frozen BK354.out 0
           have hfz30_1 := blk_frozen BK354.out 1
           have hfz30_2 := blk_frozen BK354.out 2
           have hfz30_3 := blk_frozen BK354.out 3
           have hcz31_0 : w24.cell? ⟨gb343, 0, none⟩ = some (.int .i64 t339) := (blk_cell BK343.out 0).trans rfl
           have hcz31_1 : w24.cell? ⟨gb343, 1, none⟩ = some (.int .i64 t340) := (blk_cell BK343.out 1).trans rfl
           have hcz31_2 : w24.cell? ⟨gb343, 2, none⟩ = some (.int .i64 t341) := (blk_cell BK343.out 2).trans rfl
           have hcz31_3 : w24.cell? ⟨gb343, 3, none⟩ = some (.int .i64 t342) := (blk_cell BK343.out 3).trans rfl
           have hfz31_0 := blk_frozen BK343.out 0
           have hfz31_1 := blk_frozen BK343.out 1
           have hfz31_2 := blk_frozen BK343.out 2
           have hfz31_3 := blk_frozen BK343.out 3
           go_wp2
           go_meet
           case rel => exact ⟨_, (true), (by first | rfl | (simp; done) | (simp [*]; done)), H', ⟨by have := HJ5.out; have := HJ15.out; first | omega | exact Nat.le_refl _⟩, ⟨kf1q11 BK343.out NB343_354.out⟩, ⟨by (with_reducible repeat (first | refine blk_drewN ?_ _ | refine blk_drew ?_ | refine blk_alloc ?_ _)); refine blk_put (cs := #[.int .i64 t349, .int .i64 t350, .int .i64 t351, .int .i64 0]) ?_ 3 _ rfl; (with_reducible repeat (first | refine blk_drewN ?_ _ | refine blk_drew ?_ | refine blk_alloc ?_ _)); refine blk_put (cs := #[.int .i64 t349, .int .i64 t350, .int .i64 0, .int .i64 0]) ?_ 2 _ rfl; (with_reducible repeat (first | refine blk_drewN ?_ _ | refine blk_drew ?_ | refine blk_alloc ?_ _)); refine blk_put (cs := #[.int .i64 t349, .int .i64 0, .int .i64 0, .int .i64 0]) ?_ 1 _ rfl; (with_reducible repeat (first | refine blk_drewN ?_ _ | refine blk_drew ?_ | refine blk_alloc ?_ _)); refine blk_put (cs := #[.int .i64 0, .int .i64 0, .int .i64 0, .int .i64 0]) ?_ 0 _ rfl; (with_reducible repeat (first | refine blk_drewN ?_ _ | refine blk_drew ?_ | refine blk_alloc ?_ _)); exact BK354.out⟩, ⟨lb2q11 HB.out GE343.out GE354.out⟩⟩
          ·
           rw [if_neg c28] at H
           have c28b0 : (!(t349 == t339) || (!(t350 == t340) || (!(t351 == t341) || (!(t352 == t342))))) = false := by simpa using c28
           clear c28
           (first | rw [c28b0] | (simp only [i64_w, i32_w]; rw [c28b0]) | skip)
           have H' := Aside0.mk H
           clear H
           have hnb32 := NB354_343.out
           have hnc32 := NB343_354.out
           have hcz33_0 : w24.cell? ⟨gb354, 0, none⟩ = some (.int .i64 0) := (blk_cell BK354.out 0).trans rfl
           have hcz33_1 : w24.cell? ⟨gb354, 1, none⟩ = some (.int .i64 0) := (blk_cell BK354.out 1).trans rfl
           have hcz33_2 : w24.cell? ⟨gb354, 2, none⟩ = some (.int .i64 0) := (blk_cell BK354.out 2).trans rfl
           have hcz33_3 : w24.cell? ⟨gb354, 3, none⟩ = some (.int .i64 0) := (blk_cell BK354.out 3).trans rfl
           have hfz33_0 := blk_frozen BK354.out 0
           have hfz33_1 := blk_frozen BK354.out 1
           have hfz33_2 := blk_frozen BK354.out 2
           have hfz33_3 := blk_frozen BK354.out 3
           have hcz34_0 : w24.cell? ⟨gb343, 0, none⟩ = some (.int .i64 t339) := (blk_cell BK343.out 0).trans rfl
           have hcz34_1 : w24.cell? ⟨gb343, 1, none⟩ = some (.int .i64 t340) := (blk_cell BK343.out 1).trans rfl
           have hcz34_2 : w24.cell? ⟨gb343, 2, none⟩ = some (.int .i64 t341) := (blk_cell BK343.out 2).trans rfl
           have hcz34_3 : w24.cell? ⟨gb343, 3, none⟩ = some (.int .i64 t342) := (blk_cell BK343.out 3).trans rfl
           have hfz34_0 := blk_frozen BK343.out 0
           have hfz34_1 := blk_frozen BK343.out 1
           have hfz34_2 := blk_frozen BK343.out 2
           have hfz34_3 := blk_frozen BK343.out 3
           go_wp2
           go_meet
           case rel => exact ⟨_, (false), (by first | rfl | (simp; done) | (simp [*]; done)), H', ⟨by have := HJ5.out; have := HJ15.out; first | omega | exact Nat.le_refl _⟩, ⟨kf1q11 BK343.out NB343_354.out⟩, ⟨by (with_reducible repeat (first | refine blk_drewN ?_ _ | refine blk_drew ?_ | refine blk_alloc ?_ _)); refine blk_put (cs := #[.int .i64 t349, .int .i64 t350, .int .i64 t351, .int .i64 0]) ?_ 3 _ rfl; (with_reducible repeat (first | refine blk_drewN ?_ _ | refine blk_drew ?_ | refine blk_alloc ?_ _)); refine blk_put (cs := #[.int .i64 t349, .int .i64 t350, .int .i64 0, .int .i64 0]) ?_ 2 _ rfl; (with_reducible repeat (first | refine blk_drewN ?_ _ | refine blk_drew ?_ | refine blk_alloc ?_ _)); refine blk_put (cs := #[.int .i64 t349, .int .i64 0, .int .i64 0, .int .i64 0]) ?_ 1 _ rfl; (with_reducible repeat (first | refine blk_drewN ?_ _ | refine blk_drew ?_ | refine blk_alloc ?_ _)); refine blk_put (cs := #[.int .i64 0, .int .i64 0, .int .i64 0, .int .i64 0]) ?_ 0 _ rfl; (with_reducible repeat (first | refine blk_drewN ?_ _ | refine blk_drew ?_ | refine blk_alloc ?_ _)); exact BK354.out⟩, ⟨lb2q11 HB.out GE343.out GE354.out⟩⟩
         ·
          replace c27 := Bool.eq_false_iff.mpr c27
          subst c27
          have H1 : (laws_FnNormalOf.j3 kj15 t344 x8_15 (decide ((t344.size : Int) ≤ 40)) t339 t340 t341 t342) = some r := by rw [if_neg (show ¬ (false = true) by decide)] at H; exact H
          clear H
          have H := H1
          clear H1
          have H' := Aside0.mk H
          clear H
          go_wp2
          go_meet
          case rel => exact ⟨_, (decide ((t344.size : Int) ≤ 40)), (by first | rfl | (simp; done) | (simp [*]; done)), H', ⟨by have := HJ5.out; have := HJ15.out; first | omega | exact Nat.le_refl _⟩, ⟨kf1q11 BK343.out NB343_354.out⟩, ⟨by (with_reducible repeat (first | refine blk_drewN ?_ _ | refine blk_drew ?_ | refine blk_alloc ?_ _)); refine blk_put (cs := #[.int .i64 t349, .int .i64 t350, .int .i64 t351, .int .i64 0]) ?_ 3 _ rfl; (with_reducible repeat (first | refine blk_drewN ?_ _ | refine blk_drew ?_ | refine blk_alloc ?_ _)); refine blk_put (cs := #[.int .i64 t349, .int .i64 t350, .int .i64 0, .int .i64 0]) ?_ 2 _ rfl; (with_reducible repeat (first | refine blk_drewN ?_ _ | refine blk_drew ?_ | refine blk_alloc ?_ _)); refine blk_put (cs := #[.int .i64 t349, .int .i64 0, .int .i64 0, .int .i64 0]) ?_ 1 _ rfl; (with_reducible repeat (first | refine blk_drewN ?_ _ | refine blk_drew ?_ | refine blk_alloc ?_ _)); refine blk_put (cs := #[.int .i64 0, .int .i64 0, .int .i64 0, .int .i64 0]) ?_ 0 _ rfl; (with_reducible repeat (first | refine blk_drewN ?_ _ | refine blk_drew ?_ | refine blk_alloc ?_ _)); exact BK354.out⟩, ⟨lb2q11 HB.out GE343.out GE354.out⟩⟩
        case rest =>
         clear HC22; (try clear c1); (try clear p1); (try clear q1); (try clear hx1); (try clear c2); (try clear c2b0); (try clear c2b1); (try clear p2); (try clear c3); (try clear c5); (try clear p6); (try clear c13); (try clear c13b0); (try clear c13b1); (try clear c14); (try clear c15); (try clear c16); (try clear c17); (try clear c17b0); (try clear c18); (try clear c18b0); (try clear p19); (try clear q19); (try clear hx19); (try clear c20); (try clear c20b0); (try clear c20b1); (try clear c25); (try clear c27); (try clear c28); (try clear c28b0); (try clear c29); (try clear c32); (try clear hcz11_0); (try clear hcz11_1); (try clear hcz11_2); (try clear hcz11_3); (try clear hcz26_0); (try clear hcz26_1); (try clear hcz26_2); (try clear hcz26_3); (try clear hcz30_0); (try clear hcz30_1); (try clear hcz30_2); (try clear hcz30_3); (try clear hcz31_0); (try clear hcz31_1); (try clear hcz31_2); (try clear hcz31_3); (try clear hcz33_0); (try clear hcz33_1); (try clear hcz33_2); (try clear hcz33_3); (try clear hcz34_0); (try clear hcz34_1); (try clear hcz34_2); (try clear hcz34_3); (try clear hcz9_0); (try clear hcz9_1); (try clear hcz9_2); (try clear hcz9_3); (try clear hfz11_0); (try clear hfz11_1); (try clear hfz11_2); (try clear hfz11_3); (try clear hfz26_0); (try clear hfz26_1); (try clear hfz26_2); (try clear hfz26_3); (try clear hfz30_0); (try clear hfz30_1); (try clear hfz30_2); (try clear hfz30_3); (try clear hfz31_0); (try clear hfz31_1); (try clear hfz31_2); (try clear hfz31_3); (try clear hfz33_0); (try clear hfz33_1); (try clear hfz33_2); (try clear hfz33_3); (try clear hfz34_0); (try clear hfz34_1); (try clear hfz34_2); (try clear hfz34_3); (try clear hfz9_0); (try clear hfz9_1); (try clear hfz9_2); (try clear hfz9_3); (try clear p1); (try clear p19); (try clear p2); (try clear p6); (try clear q1); (try clear q19)
         obtain ⟨kq, x72_21, rfl, HA, HJ21, BK343, BK354, HB⟩ := hcut
         cases kq with
         | zero => exact absurd HA.out (by simp [laws_FnNormalOf.j3])
         | succ kj21 =>
          have H := HA.out
          clear HA
          simp only [laws_FnNormalOf.j3] at H
          by_cases c35 : x72_21 = true
          ·
           subst c35
           have H1 : (some false) = some r := by rw [if_pos rfl] at H; exact H
           clear H
           have H := H1
           clear H1
           obtain rfl := Option.some.inj H
           go_wp2
           go_ret
           exact ⟨by first | rfl | (simp [errW_none, errW_some] <;> rfl) | (simp [*, errW_none, errW_some] <;> rfl), by repeat (first | (with_reducible first | exact HB.out | apply below_alloc | apply pw_below_drewN | apply below_drew1 | refine below_set ?_ GE343.out | refine below_set ?_ GE354.out) | exact HB.out)⟩
          ·
           replace c35 := Bool.eq_false_iff.mpr c35
           subst c35
           have H1 : (if t341 = 0 then (some (x8_15 == (t344.size : Int))) else ((impl_LowestOf.f kj21 t339 t341).bind fun bt355 => ((impl_DanceFor.f kj21 bt355.1 bt355.2.1).bind fun bt359 => (if bt355.2.2 = true then (if bt359.2 = true then (if x8_15 < (t344.size : Int) then (if 0 ≤ (wrap64 (x8_15 + 1)) then (if (wrap64 (x8_15 + 1)) ≤ (t344.size : Int) then (some ((t344.extract ((wrap64 (x8_15 + 1)) : Int).toNat t344.size).toList == bt359.1.toList)) else (none)) else (none)) else (some false)) else (some false)) else (some false))))) = some r := by rw [if_neg (show ¬ (false = true) by decide)] at H; exact H
           clear H
           have H := H1
           clear H1
           by_cases c36 : t341 = 0
           ·
            rw [if_pos c36] at H
            have c36b0 : (t341 == 0) = true := beq_iff_eq.mpr c36
            have c36b1 : (t341 != 0) = false := bne_eq_false_iff_eq.mpr c36
            clear c36
            obtain rfl := Option.some.inj H
            have hnb37 := NB343_354.out
            have hnc37 := NB354_343.out
            have hcz38_0 : wc.cell? ⟨gb343, 0, none⟩ = some (.int .i64 t339) := (blk_cell BK343.out 0).trans rfl
            have hcz38_1 : wc.cell? ⟨gb343, 1, none⟩ = some (.int .i64 t340) := (blk_cell BK343.out 1).trans rfl
            have hcz38_2 : wc.cell? ⟨gb343, 2, none⟩ = some (.int .i64 t341) := (blk_cell BK343.out 2).trans rfl
            have hcz38_3 : wc.cell? ⟨gb343, 3, none⟩ = some (.int .i64 t342) := (blk_cell BK343.out 3).trans rfl
            have hfz38_0 := blk_frozen BK343.out 0
            have hfz38_1 := blk_frozen BK343.out 1
            have hfz38_2 := blk_frozen BK343.out 2
            have hfz38_3 := blk_frozen BK343.out 3
            go_wp2
            go_ret
            exact ⟨by first | rfl | (simp [errW_none, errW_some] <;> rfl) | (simp [*, errW_none, errW_some] <;> rfl), by repeat (first | (with_reducible first | exact HB.out | apply below_alloc | apply pw_below_drewN | apply below_drew1 | refine below_set ?_ GE343.out | refine below_set ?_ GE354.out) | exact HB.out)⟩
           ·
            rw [if_neg c36] at H
            have c36b0 : (t341 == 0) = false := beq_eq_false_iff_ne.mpr c36
            have c36b1 : (t341 != 0) = true := bne_iff_ne.mpr c36
            replace H := Option.bind_eq_some_iff.mp H
            obtain ⟨⟨t355, t356, t357⟩, A390, H⟩ := H
            replace H : ((impl_DanceFor.f kj21 t355 t356).bind fun bt359 => (if t357 = true then (if bt359.2 = true then (if x8_15 < (t344.size : Int) then (if 0 ≤ (wrap64 (x8_15 + 1)) then (if (wrap64 (x8_15 + 1)) ≤ (t344.size : Int) then (some ((t344.extract ((wrap64 (x8_15 + 1)) : Int).toNat t344.size).toList == bt359.1.toList)) else (none)) else (none)) else (some false)) else (some false)) else (some false))) = some r := H
            have A39 := Aside0.mk A390
            clear A390
            replace H := Option.bind_eq_some_iff.mp H
            obtain ⟨⟨t359, t360⟩, A400, H⟩ := H
            replace H : (if t357 = true then (if t360 = true then (if x8_15 < (t344.size : Int) then (if 0 ≤ (wrap64 (x8_15 + 1)) then (if (wrap64 (x8_15 + 1)) ≤ (t344.size : Int) then (some ((t344.extract ((wrap64 (x8_15 + 1)) : Int).toNat t344.size).toList == t359.toList)) else (none)) else (none)) else (some false)) else (some false)) else (some false)) = some r := H
            have A40 := Aside0.mk A400
            clear A400
            by_cases c41 : t357 = true
            ·
             subst c41
             have H1 : (if t360 = true then (if x8_15 < (t344.size : Int) then (if 0 ≤ (wrap64 (x8_15 + 1)) then (if (wrap64 (x8_15 + 1)) ≤ (t344.size : Int) then (some ((t344.extract ((wrap64 (x8_15 + 1)) : Int).toNat t344.size).toList == t359.toList)) else (none)) else (none)) else (some false)) else (some false)) = some r := by rw [if_pos rfl] at H; exact H
             clear H
             have H := H1
             clear H1
             by_cases c42 : t360 = true
             ·
              subst c42
              have H1 : (if x8_15 < (t344.size : Int) then (if 0 ≤ (wrap64 (x8_15 + 1)) then (if (wrap64 (x8_15 + 1)) ≤ (t344.size : Int) then (some ((t344.extract ((wrap64 (x8_15 + 1)) : Int).toNat t344.size).toList == t359.toList)) else (none)) else (none)) else (some false)) = some r := by rw [if_pos rfl] at H; exact H
              clear H
              have H := H1
              clear H1
              by_cases c43 : x8_15 < (t344.size : Int)
              ·
               rw [if_pos c43] at H
               have c43b0 : decide (x8_15 < (t344.size : Int)) = true := decide_eq_true c43
               clear c43
               obtain ⟨ji44, hji44⟩ : ∃ j_ : Int, (wrap64 (x8_15 + 1)) = j_ := ⟨_, rfl⟩
               replace H : (if 0 ≤ (ji44) then (if (ji44) ≤ (t344.size : Int) then (some ((t344.extract ((ji44) : Int).toNat t344.size).toList == t359.toList)) else (none)) else (none)) = some r := by first | (rw [hji44] at H; exact H) | (simp only [hji44] at H ⊢; exact H)
               (try rw [hji44] at A39)
               (try rw [hji44] at A40)
               have hji44w : (IntKind.i64.wrap (x8_15 + 1)) = ji44 := (i64_w _).trans hji44
               by_cases c45 : 0 ≤ (ji44)
               ·
                rw [if_pos c45] at H
                have c45b0 := eq_true c45
                have c45b1 : decide (0 ≤ (ji44)) = true := decide_eq_true c45
                clear c45
                by_cases c46 : (ji44) ≤ (t344.size : Int)
                ·
                 rw [if_pos c46] at H
                 have c46b0 := eq_true c46
                 have c46b1 : decide ((ji44) ≤ (t344.size : Int)) = true := decide_eq_true c46
                 clear c46
                 obtain rfl := Option.some.inj H
                 have hnb47 := NB343_354.out
                 have hnc47 := NB354_343.out
                 have hcz48_0 : wc.cell? ⟨gb343, 0, none⟩ = some (.int .i64 t339) := (blk_cell BK343.out 0).trans rfl
                 have hcz48_1 : wc.cell? ⟨gb343, 1, none⟩ = some (.int .i64 t340) := (blk_cell BK343.out 1).trans rfl
                 have hcz48_2 : wc.cell? ⟨gb343, 2, none⟩ = some (.int .i64 t341) := (blk_cell BK343.out 2).trans rfl
                 have hcz48_3 : wc.cell? ⟨gb343, 3, none⟩ = some (.int .i64 t342) := (blk_cell BK343.out 3).trans rfl
                 have hfz48_0 := blk_frozen BK343.out 0
                 have hfz48_1 := blk_frozen BK343.out 1
                 have hfz48_2 := blk_frozen BK343.out 2
                 have hfz48_3 := blk_frozen BK343.out 3
                 go_wp2_with (first | ((with_reducible refine gate_callee (f := 18) rfl ?_); refine goesL_ (some 85) rfl rfl Tryd.func18 (by kernel_rfl) rfl #[.int .i64 t339, .int .i64 t341] rfl (by (try simp only [List.map_toArray, List.map_cons, List.map_nil]); first | done | rfl | (simp only [List.length_drop, List.length_take]; rfl)) ?_; (with_reducible refine (impl_LowestOf.calls kj21 t339 t341 t355 t356 true _ A39.out).mono ?_); rintro e w49 ⟨rfl, hb⟩; refine ⟨_, rfl, ?_⟩; have n0_ := Aside0.mk (blk_below (g := gb343) (o := .cells #[.int .i64 t339, .int .i64 t340, .int .i64 t341, .int .i64 t342] 34 (0, 0)) (kbq11 BK343.out) hb); have n1_ := Aside0.mk (blk_below (g := gb354) (o := .cells #[.int .i64 t349, .int .i64 t350, .int .i64 t351, .int .i64 t352] 34 (0, 0)) (kbq11 BK354.out) hb); have n2_ := Aside0.mk (below_step (lb2q11 HB.out GE343.out GE354.out) hb); clear BK343; clear BK354; clear HB; have BK343 := n0_; have BK354 := n1_; have HB := n2_; clear n0_ n1_ n2_; (try clear hb); (try clear hb2); (try clear hk); (try clear hi)) | ((with_reducible refine gate_dst (N := 11) rfl ?_); (try (refine gate_guard (by rfl) ?_; dsimp only)); refine box_event ?hg (N := 11) ?hd (cs := #[.int .i64 0, .int .i64 0]) (t := 24) ?hr ?_; (case hd => rfl); (case hg => rfl); (case hr => first | (go_simp; done) | (go_simp; rfl)); intro gb358 hg w50 hbox hb; have n0_ := Aside0.mk (blk_below (g := gb343) (o := .cells #[.int .i64 t339, .int .i64 t340, .int .i64 t341, .int .i64 t342] 34 (0, 0)) (kbq11 BK343.out) hb); have n1_ := Aside0.mk (blk_below (g := gb354) (o := .cells #[.int .i64 t349, .int .i64 t350, .int .i64 t351, .int .i64 t352] 34 (0, 0)) (kbq11 BK354.out) hb); have n2_ := Aside0.mk (below_step (lb2q11 HB.out GE343.out GE354.out) hb); have n3_ := Aside0.mk (hbox); have n4_ := Aside0.mk ((by rw [hg]; exact (below_size (lb2q11 HB.out GE343.out GE354.out)) : w.heap.size ≤ gb358)); have n5_ := Aside0.mk ((by rw [hg]; exact (below_size (lb2q11 HB.out GE343.out GE354.out)) : w.heap.size ≤ gb358)); have n6_ := Aside0.mk ((by rw [hg]; exact Nat.ne_of_lt (blk_lt (g := gb343) (o := .cells #[.int .i64 t339, .int .i64 t340, .int .i64 t341, .int .i64 t342] 34 (0, 0)) (kbq11 BK343.out)) : gb343 ≠ gb358)); have n7_ := Aside0.mk ((by rw [hg]; exact Nat.ne_of_gt (blk_lt (g := gb343) (o := .cells #[.int .i64 t339, .int .i64 t340, .int .i64 t341, .int .i64 t342] 34 (0, 0)) (kbq11 BK343.out)) : gb358 ≠ gb343)); have n8_ := Aside0.mk ((by rw [hg]; exact Nat.ne_of_lt (blk_lt (g := gb354) (o := .cells #[.int .i64 t349, .int .i64 t350, .int .i64 t351, .int .i64 t352] 34 (0, 0)) (kbq11 BK354.out)) : gb354 ≠ gb358)); have n9_ := Aside0.mk ((by rw [hg]; exact Nat.ne_of_gt (blk_lt (g := gb354) (o := .cells #[.int .i64 t349, .int .i64 t350, .int .i64 t351, .int .i64 t352] 34 (0, 0)) (kbq11 BK354.out)) : gb358 ≠ gb354)); clear BK343; clear BK354; clear HB; have BK343 := n0_; have BK354 := n1_; have HB := n2_; have BK358 := n3_; have GW358 := n4_; have GE358 := n5_; have NB343_358 := n6_; have NB358_343 := n7_; have NB354_358 := n8_; have NB358_354 := n9_; clear n0_ n1_ n2_ n3_ n4_ n5_ n6_ n7_ n8_ n9_; clear hb hbox hg; have hnb51 := NB358_343.out; have hnc51 := NB343_358.out; have hnb52 := NB358_354.out; have hnc52 := NB354_358.out; have hcz53_0 : w50.cell? ⟨gb358, 0, none⟩ = some (.int .i64 0) := (blk_cell BK358.out 0).trans rfl; have hcz53_1 : w50.cell? ⟨gb358, 1, none⟩ = some (.int .i64 0) := (blk_cell BK358.out 1).trans rfl; have hfz53_0 := blk_frozen BK358.out 0; have hfz53_1 := blk_frozen BK358.out 1) | ((with_reducible refine gate_callee (f := 19) rfl ?_); refine goesL_ (some 90) rfl rfl Tryd.func19 (by kernel_rfl) rfl #[.agg #[.int .i64 t355, .int .i64 t356]] rfl (by (try simp only [List.map_toArray, List.map_cons, List.map_nil]); first | done | rfl | (simp only [List.length_drop, List.length_take]; rfl)) ?_; (with_reducible refine (impl_DanceFor.calls kj21 t355 t356 t359 true _ A40.out).mono ?_); rintro e w54 ⟨rfl, hb⟩; refine ⟨_, rfl, ?_⟩; have n0_ := Aside0.mk (blk_below (g := gb343) (o := .cells #[.int .i64 t339, .int .i64 t340, .int .i64 t341, .int .i64 t342] 34 (0, 0)) (kf1q11 BK343.out NB343_358.out) hb); have n1_ := Aside0.mk (blk_below (g := gb354) (o := .cells #[.int .i64 t349, .int .i64 t350, .int .i64 t351, .int .i64 t352] 34 (0, 0)) (kf1q11 BK354.out NB354_358.out) hb); have n2_ := Aside0.mk (blk_below (g := gb358) (o := .cells #[.int .i64 t355, .int .i64 t356] 24 (0, 0)) (by (with_reducible repeat (first | refine blk_drewN ?_ _ | refine blk_drew ?_ | refine blk_alloc ?_ _)); refine blk_put (cs := #[.int .i64 t355, .int .i64 0]) ?_ 1 _ rfl; (with_reducible repeat (first | refine blk_drewN ?_ _ | refine blk_drew ?_ | refine blk_alloc ?_ _)); refine blk_put (cs := #[.int .i64 0, .int .i64 0]) ?_ 0 _ rfl; (with_reducible repeat (first | refine blk_drewN ?_ _ | refine blk_drew ?_ | refine blk_alloc ?_ _)); exact BK358.out) hb); have n3_ := Aside0.mk (below_step (lb3q11 HB.out GE343.out GE354.out GE358.out) hb); clear BK343; clear BK354; clear BK358; clear HB; have BK343 := n0_; have BK354 := n1_; have BK358 := n2_; have HB := n3_; clear n0_ n1_ n2_ n3_; (try clear hb); (try clear hb2); (try clear hk); (try clear hi)))
                 go_ret
                 exact ⟨by first | rfl | (simp [errW_none, errW_some] <;> rfl) | (simp only [← hji44]; first | rfl | (simp [errW_none, errW_some] <;> rfl)) | (simp [*, errW_none, errW_some] <;> rfl), by repeat (first | (with_reducible first | exact HB.out | apply below_alloc | apply pw_below_drewN | apply below_drew1 | refine below_set ?_ GE343.out | refine below_set ?_ GE354.out | refine below_set ?_ GE358.out) | exact HB.out)⟩
                ·
                 rw [if_neg c46] at H
                 exact absurd H (by simp)
               ·
                rw [if_neg c45] at H
                exact absurd H (by simp)
              ·
               rw [if_neg c43] at H
               have c43b0 : decide (x8_15 < (t344.size : Int)) = false := decide_eq_false c43
               clear c43
               obtain rfl := Option.some.inj H
               have hnb55 := NB343_354.out
               have hnc55 := NB354_343.out
               have hcz56_0 : wc.cell? ⟨gb343, 0, none⟩ = some (.int .i64 t339) := (blk_cell BK343.out 0).trans rfl
               have hcz56_1 : wc.cell? ⟨gb343, 1, none⟩ = some (.int .i64 t340) := (blk_cell BK343.out 1).trans rfl
               have hcz56_2 : wc.cell? ⟨gb343, 2, none⟩ = some (.int .i64 t341) := (blk_cell BK343.out 2).trans rfl
               have hcz56_3 : wc.cell? ⟨gb343, 3, none⟩ = some (.int .i64 t342) := (blk_cell BK343.out 3).trans rfl
               have hfz56_0 := blk_frozen BK343.out 0
               have hfz56_1 := blk_frozen BK343.out 1
               have hfz56_2 := blk_frozen BK343.out 2
               have hfz56_3 := blk_frozen BK343.out 3
               go_wp2_with (first | ((with_reducible refine gate_callee (f := 18) rfl ?_); refine goesL_ (some 85) rfl rfl Tryd.func18 (by kernel_rfl) rfl #[.int .i64 t339, .int .i64 t341] rfl (by (try simp only [List.map_toArray, List.map_cons, List.map_nil]); first | done | rfl | (simp only [List.length_drop, List.length_take]; rfl)) ?_; (with_reducible refine (impl_LowestOf.calls kj21 t339 t341 t355 t356 true _ A39.out).mono ?_); rintro e w57 ⟨rfl, hb⟩; refine ⟨_, rfl, ?_⟩; have n0_ := Aside0.mk (blk_below (g := gb343) (o := .cells #[.int .i64 t339, .int .i64 t340, .int .i64 t341, .int .i64 t342] 34 (0, 0)) (kbq11 BK343.out) hb); have n1_ := Aside0.mk (blk_below (g := gb354) (o := .cells #[.int .i64 t349, .int .i64 t350, .int .i64 t351, .int .i64 t352] 34 (0, 0)) (kbq11 BK354.out) hb); have n2_ := Aside0.mk (below_step (lb2q11 HB.out GE343.out GE354.out) hb); clear BK343; clear BK354; clear HB; have BK343 := n0_; have BK354 := n1_; have HB := n2_; clear n0_ n1_ n2_; (try clear hb); (try clear hb2); (try clear hk); (try clear hi)) | ((with_reducible refine gate_dst (N := 11) rfl ?_); (try (refine gate_guard (by rfl) ?_; dsimp only)); refine box_event ?hg (N := 11) ?hd (cs := #[.int .i64 0, .int .i64 0]) (t := 24) ?hr ?_; (case hd => rfl); (case hg => rfl); (case hr => first | (go_simp; done) | (go_simp; rfl)); intro gb358 hg w58 hbox hb; have n0_ := Aside0.mk (blk_below (g := gb343) (o := .cells #[.int .i64 t339, .int .i64 t340, .int .i64 t341, .int .i64 t342] 34 (0, 0)) (kbq11 BK343.out) hb); have n1_ := Aside0.mk (blk_below (g := gb354) (o := .cells #[.int .i64 t349, .int .i64 t350, .int .i64 t351, .int .i64 t352] 34 (0, 0)) (kbq11 BK354.out) hb); have n2_ := Aside0.mk (below_step (lb2q11 HB.out GE343.out GE354.out) hb); have n3_ := Aside0.mk (hbox); have n4_ := Aside0.mk ((by rw [hg]; exact (below_size (lb2q11 HB.out GE343.out GE354.out)) : w.heap.size ≤ gb358)); have n5_ := Aside0.mk ((by rw [hg]; exact (below_size (lb2q11 HB.out GE343.out GE354.out)) : w.heap.size ≤ gb358)); have n6_ := Aside0.mk ((by rw [hg]; exact Nat.ne_of_lt (blk_lt (g := gb343) (o := .cells #[.int .i64 t339, .int .i64 t340, .int .i64 t341, .int .i64 t342] 34 (0, 0)) (kbq11 BK343.out)) : gb343 ≠ gb358)); have n7_ := Aside0.mk ((by rw [hg]; exact Nat.ne_of_gt (blk_lt (g := gb343) (o := .cells #[.int .i64 t339, .int .i64 t340, .int .i64 t341, .int .i64 t342] 34 (0, 0)) (kbq11 BK343.out)) : gb358 ≠ gb343)); have n8_ := Aside0.mk ((by rw [hg]; exact Nat.ne_of_lt (blk_lt (g := gb354) (o := .cells #[.int .i64 t349, .int .i64 t350, .int .i64 t351, .int .i64 t352] 34 (0, 0)) (kbq11 BK354.out)) : gb354 ≠ gb358)); have n9_ := Aside0.mk ((by rw [hg]; exact Nat.ne_of_gt (blk_lt (g := gb354) (o := .cells #[.int .i64 t349, .int .i64 t350, .int .i64 t351, .int .i64 t352] 34 (0, 0)) (kbq11 BK354.out)) : gb358 ≠ gb354)); clear BK343; clear BK354; clear HB; have BK343 := n0_; have BK354 := n1_; have HB := n2_; have BK358 := n3_; have GW358 := n4_; have GE358 := n5_; have NB343_358 := n6_; have NB358_343 := n7_; have NB354_358 := n8_; have NB358_354 := n9_; clear n0_ n1_ n2_ n3_ n4_ n5_ n6_ n7_ n8_ n9_; clear hb hbox hg; have hnb59 := NB358_343.out; have hnc59 := NB343_358.out; have hnb60 := NB358_354.out; have hnc60 := NB354_358.out; have hcz61_0 : w58.cell? ⟨gb358, 0, none⟩ = some (.int .i64 0) := (blk_cell BK358.out 0).trans rfl; have hcz61_1 : w58.cell? ⟨gb358, 1, none⟩ = some (.int .i64 0) := (blk_cell BK358.out 1).trans rfl; have hfz61_0 := blk_frozen BK358.out 0; have hfz61_1 := blk_frozen BK358.out 1) | ((with_reducible refine gate_callee (f := 19) rfl ?_); refine goesL_ (some 90) rfl rfl Tryd.func19 (by kernel_rfl) rfl #[.agg #[.int .i64 t355, .int .i64 t356]] rfl (by (try simp only [List.map_toArray, List.map_cons, List.map_nil]); first | done | rfl | (simp only [List.length_drop, List.length_take]; rfl)) ?_; (with_reducible refine (impl_DanceFor.calls kj21 t355 t356 t359 true _ A40.out).mono ?_); rintro e w62 ⟨rfl, hb⟩; refine ⟨_, rfl, ?_⟩; have n0_ := Aside0.mk (blk_below (g := gb343) (o := .cells #[.int .i64 t339, .int .i64 t340, .int .i64 t341, .int .i64 t342] 34 (0, 0)) (kf1q11 BK343.out NB343_358.out) hb); have n1_ := Aside0.mk (blk_below (g := gb354) (o := .cells #[.int .i64 t349, .int .i64 t350, .int .i64 t351, .int .i64 t352] 34 (0, 0)) (kf1q11 BK354.out NB354_358.out) hb); have n2_ := Aside0.mk (blk_below (g := gb358) (o := .cells #[.int .i64 t355, .int .i64 t356] 24 (0, 0)) (by (with_reducible repeat (first | refine blk_drewN ?_ _ | refine blk_drew ?_ | refine blk_alloc ?_ _)); refine blk_put (cs := #[.int .i64 t355, .int .i64 0]) ?_ 1 _ rfl; (with_reducible repeat (first | refine blk_drewN ?_ _ | refine blk_drew ?_ | refine blk_alloc ?_ _)); refine blk_put (cs := #[.int .i64 0, .int .i64 0]) ?_ 0 _ rfl; (with_reducible repeat (first | refine blk_drewN ?_ _ | refine blk_drew ?_ | refine blk_alloc ?_ _)); exact BK358.out) hb); have n3_ := Aside0.mk (below_step (lb3q11 HB.out GE343.out GE354.out GE358.out) hb); clear BK343; clear BK354; clear BK358; clear HB; have BK343 := n0_; have BK354 := n1_; have BK358 := n2_; have HB := n3_; clear n0_ n1_ n2_ n3_; (try clear hb); (try clear hb2); (try clear hk); (try clear hi)))
               go_ret
               exact ⟨by first | rfl | (simp [errW_none, errW_some] <;> rfl) | (simp [*, errW_none, errW_some] <;> rfl), by repeat (first | (with_reducible first | exact HB.out | apply below_alloc | apply pw_below_drewN | apply below_drew1 | refine below_set ?_ GE343.out | refine below_set ?_ GE354.out | refine below_set ?_ GE358.out) | exact HB.out)⟩
             ·
              replace c42 := Bool.eq_false_iff.mpr c42
              subst c42
              have H1 : (some false) = some r := by rw [if_neg (show ¬ (false = true) by decide)] at H; exact H
              clear H
              have H := H1
              clear H1
              obtain rfl := Option.some.inj H
              have hnb63 := NB343_354.out
              have hnc63 := NB354_343.out
              have hcz64_0 : wc.cell? ⟨gb343, 0, none⟩ = some (.int .i64 t339) := (blk_cell BK343.out 0).trans rfl
              have hcz64_1 : wc.cell? ⟨gb343, 1, none⟩ = some (.int .i64 t340) := (blk_cell BK343.out 1).trans rfl
              have hcz64_2 : wc.cell? ⟨gb343, 2, none⟩ = some (.int .i64 t341) := (blk_cell BK343.out 2).trans rfl
              have hcz64_3 : wc.cell? ⟨gb343, 3, none⟩ = some (.int .i64 t342) := (blk_cell BK343.out 3).trans rfl
              have hfz64_0 := blk_frozen BK343.out 0
              have hfz64_1 := blk_frozen BK343.out 1
              have hfz64_2 := blk_frozen BK343.out 2
              have hfz64_3 := blk_frozen BK343.out 3
              go_wp2_with (first | ((with_reducible refine gate_callee (f := 18) rfl ?_); refine goesL_ (some 85) rfl rfl Tryd.func18 (by kernel_rfl) rfl #[.int .i64 t339, .int .i64 t341] rfl (by (try simp only [List.map_toArray, List.map_cons, List.map_nil]); first | done | rfl | (simp only [List.length_drop, List.length_take]; rfl)) ?_; (with_reducible refine (impl_LowestOf.calls kj21 t339 t341 t355 t356 true _ A39.out).mono ?_); rintro e w65 ⟨rfl, hb⟩; refine ⟨_, rfl, ?_⟩; have n0_ := Aside0.mk (blk_below (g := gb343) (o := .cells #[.int .i64 t339, .int .i64 t340, .int .i64 t341, .int .i64 t342] 34 (0, 0)) (kbq11 BK343.out) hb); have n1_ := Aside0.mk (blk_below (g := gb354) (o := .cells #[.int .i64 t349, .int .i64 t350, .int .i64 t351, .int .i64 t352] 34 (0, 0)) (kbq11 BK354.out) hb); have n2_ := Aside0.mk (below_step (lb2q11 HB.out GE343.out GE354.out) hb); clear BK343; clear BK354; clear HB; have BK343 := n0_; have BK354 := n1_; have HB := n2_; clear n0_ n1_ n2_; (try clear hb); (try clear hb2); (try clear hk); (try clear hi)) | ((with_reducible refine gate_dst (N := 11) rfl ?_); (try (refine gate_guard (by rfl) ?_; dsimp only)); refine box_event ?hg (N := 11) ?hd (cs := #[.int .i64 0, .int .i64 0]) (t := 24) ?hr ?_; (case hd => rfl); (case hg => rfl); (case hr => first | (go_simp; done) | (go_simp; rfl)); intro gb358 hg w66 hbox hb; have n0_ := Aside0.mk (blk_below (g := gb343) (o := .cells #[.int .i64 t339, .int .i64 t340, .int .i64 t341, .int .i64 t342] 34 (0, 0)) (kbq11 BK343.out) hb); have n1_ := Aside0.mk (blk_below (g := gb354) (o := .cells #[.int .i64 t349, .int .i64 t350, .int .i64 t351, .int .i64 t352] 34 (0, 0)) (kbq11 BK354.out) hb); have n2_ := Aside0.mk (below_step (lb2q11 HB.out GE343.out GE354.out) hb); have n3_ := Aside0.mk (hbox); have n4_ := Aside0.mk ((by rw [hg]; exact (below_size (lb2q11 HB.out GE343.out GE354.out)) : w.heap.size ≤ gb358)); have n5_ := Aside0.mk ((by rw [hg]; exact (below_size (lb2q11 HB.out GE343.out GE354.out)) : w.heap.size ≤ gb358)); have n6_ := Aside0.mk ((by rw [hg]; exact Nat.ne_of_lt (blk_lt (g := gb343) (o := .cells #[.int .i64 t339, .int .i64 t340, .int .i64 t341, .int .i64 t342] 34 (0, 0)) (kbq11 BK343.out)) : gb343 ≠ gb358)); have n7_ := Aside0.mk ((by rw [hg]; exact Nat.ne_of_gt (blk_lt (g := gb343) (o := .cells #[.int .i64 t339, .int .i64 t340, .int .i64 t341, .int .i64 t342] 34 (0, 0)) (kbq11 BK343.out)) : gb358 ≠ gb343)); have n8_ := Aside0.mk ((by rw [hg]; exact Nat.ne_of_lt (blk_lt (g := gb354) (o := .cells #[.int .i64 t349, .int .i64 t350, .int .i64 t351, .int .i64 t352] 34 (0, 0)) (kbq11 BK354.out)) : gb354 ≠ gb358)); have n9_ := Aside0.mk ((by rw [hg]; exact Nat.ne_of_gt (blk_lt (g := gb354) (o := .cells #[.int .i64 t349, .int .i64 t350, .int .i64 t351, .int .i64 t352] 34 (0, 0)) (kbq11 BK354.out)) : gb358 ≠ gb354)); clear BK343; clear BK354; clear HB; have BK343 := n0_; have BK354 := n1_; have HB := n2_; have BK358 := n3_; have GW358 := n4_; have GE358 := n5_; have NB343_358 := n6_; have NB358_343 := n7_; have NB354_358 := n8_; have NB358_354 := n9_; clear n0_ n1_ n2_ n3_ n4_ n5_ n6_ n7_ n8_ n9_; clear hb hbox hg; have hnb67 := NB358_343.out; have hnc67 := NB343_358.out; have hnb68 := NB358_354.out; have hnc68 := NB354_358.out; have hcz69_0 : w66.cell? ⟨gb358, 0, none⟩ = some (.int .i64 0) := (blk_cell BK358.out 0).trans rfl; have hcz69_1 : w66.cell? ⟨gb358, 1, none⟩ = some (.int .i64 0) := (blk_cell BK358.out 1).trans rfl; have hfz69_0 := blk_frozen BK358.out 0; have hfz69_1 := blk_frozen BK358.out 1) | ((with_reducible refine gate_callee (f := 19) rfl ?_); refine goesL_ (some 90) rfl rfl Tryd.func19 (by kernel_rfl) rfl #[.agg #[.int .i64 t355, .int .i64 t356]] rfl (by (try simp only [List.map_toArray, List.map_cons, List.map_nil]); first | done | rfl | (simp only [List.length_drop, List.length_take]; rfl)) ?_; (with_reducible refine (impl_DanceFor.calls kj21 t355 t356 t359 false _ A40.out).mono ?_); rintro e w70 ⟨rfl, hb⟩; refine ⟨_, rfl, ?_⟩; have n0_ := Aside0.mk (blk_below (g := gb343) (o := .cells #[.int .i64 t339, .int .i64 t340, .int .i64 t341, .int .i64 t342] 34 (0, 0)) (kf1q11 BK343.out NB343_358.out) hb); have n1_ := Aside0.mk (blk_below (g := gb354) (o := .cells #[.int .i64 t349, .int .i64 t350, .int .i64 t351, .int .i64 t352] 34 (0, 0)) (kf1q11 BK354.out NB354_358.out) hb); have n2_ := Aside0.mk (blk_below (g := gb358) (o := .cells #[.int .i64 t355, .int .i64 t356] 24 (0, 0)) (by (with_reducible repeat (first | refine blk_drewN ?_ _ | refine blk_drew ?_ | refine blk_alloc ?_ _)); refine blk_put (cs := #[.int .i64 t355, .int .i64 0]) ?_ 1 _ rfl; (with_reducible repeat (first | refine blk_drewN ?_ _ | refine blk_drew ?_ | refine blk_alloc ?_ _)); refine blk_put (cs := #[.int .i64 0, .int .i64 0]) ?_ 0 _ rfl; (with_reducible repeat (first | refine blk_drewN ?_ _ | refine blk_drew ?_ | refine blk_alloc ?_ _)); exact BK358.out) hb); have n3_ := Aside0.mk (below_step (lb3q11 HB.out GE343.out GE354.out GE358.out) hb); clear BK343; clear BK354; clear BK358; clear HB; have BK343 := n0_; have BK354 := n1_; have BK358 := n2_; have HB := n3_; clear n0_ n1_ n2_ n3_; (try clear hb); (try clear hb2); (try clear hk); (try clear hi)))
              go_ret
              exact ⟨by first | rfl | (simp [errW_none, errW_some] <;> rfl) | (simp [*, errW_none, errW_some] <;> rfl), by repeat (first | (with_reducible first | exact HB.out | apply below_alloc | apply pw_below_drewN | apply below_drew1 | refine below_set ?_ GE343.out | refine below_set ?_ GE354.out | refine below_set ?_ GE358.out) | exact HB.out)⟩
            ·
             replace c41 := Bool.eq_false_iff.mpr c41
             subst c41
             have H1 : (some false) = some r := by rw [if_neg (show ¬ (false = true) by decide)] at H; exact H
             clear H
             have H := H1
             clear H1
             obtain rfl := Option.some.inj H
             have hnb71 := NB343_354.out
             have hnc71 := NB354_343.out
             have hcz72_0 : wc.cell? ⟨gb343, 0, none⟩ = some (.int .i64 t339) := (blk_cell BK343.out 0).trans rfl
             have hcz72_1 : wc.cell? ⟨gb343, 1, none⟩ = some (.int .i64 t340) := (blk_cell BK343.out 1).trans rfl
             have hcz72_2 : wc.cell? ⟨gb343, 2, none⟩ = some (.int .i64 t341) := (blk_cell BK343.out 2).trans rfl
             have hcz72_3 : wc.cell? ⟨gb343, 3, none⟩ = some (.int .i64 t342) := (blk_cell BK343.out 3).trans rfl
             have hfz72_0 := blk_frozen BK343.out 0
             have hfz72_1 := blk_frozen BK343.out 1
             have hfz72_2 := blk_frozen BK343.out 2
             have hfz72_3 := blk_frozen BK343.out 3
             go_wp2_with (first | ((with_reducible refine gate_callee (f := 18) rfl ?_); refine goesL_ (some 85) rfl rfl Tryd.func18 (by kernel_rfl) rfl #[.int .i64 t339, .int .i64 t341] rfl (by (try simp only [List.map_toArray, List.map_cons, List.map_nil]); first | done | rfl | (simp only [List.length_drop, List.length_take]; rfl)) ?_; (with_reducible refine (impl_LowestOf.calls kj21 t339 t341 t355 t356 false _ A39.out).mono ?_); rintro e w73 ⟨rfl, hb⟩; refine ⟨_, rfl, ?_⟩; have n0_ := Aside0.mk (blk_below (g := gb343) (o := .cells #[.int .i64 t339, .int .i64 t340, .int .i64 t341, .int .i64 t342] 34 (0, 0)) (kbq11 BK343.out) hb); have n1_ := Aside0.mk (blk_below (g := gb354) (o := .cells #[.int .i64 t349, .int .i64 t350, .int .i64 t351, .int .i64 t352] 34 (0, 0)) (kbq11 BK354.out) hb); have n2_ := Aside0.mk (below_step (lb2q11 HB.out GE343.out GE354.out) hb); clear BK343; clear BK354; clear HB; have BK343 := n0_; have BK354 := n1_; have HB := n2_; clear n0_ n1_ n2_; (try clear hb); (try clear hb2); (try clear hk); (try clear hi)) | ((with_reducible refine gate_dst (N := 11) rfl ?_); (try (refine gate_guard (by rfl) ?_; dsimp only)); refine box_event ?hg (N := 11) ?hd (cs := #[.int .i64 0, .int .i64 0]) (t := 24) ?hr ?_; (case hd => rfl); (case hg => rfl); (case hr => first | (go_simp; done) | (go_simp; rfl)); intro gb358 hg w74 hbox hb; have n0_ := Aside0.mk (blk_below (g := gb343) (o := .cells #[.int .i64 t339, .int .i64 t340, .int .i64 t341, .int .i64 t342] 34 (0, 0)) (kbq11 BK343.out) hb); have n1_ := Aside0.mk (blk_below (g := gb354) (o := .cells #[.int .i64 t349, .int .i64 t350, .int .i64 t351, .int .i64 t352] 34 (0, 0)) (kbq11 BK354.out) hb); have n2_ := Aside0.mk (below_step (lb2q11 HB.out GE343.out GE354.out) hb); have n3_ := Aside0.mk (hbox); have n4_ := Aside0.mk ((by rw [hg]; exact (below_size (lb2q11 HB.out GE343.out GE354.out)) : w.heap.size ≤ gb358)); have n5_ := Aside0.mk ((by rw [hg]; exact (below_size (lb2q11 HB.out GE343.out GE354.out)) : w.heap.size ≤ gb358)); have n6_ := Aside0.mk ((by rw [hg]; exact Nat.ne_of_lt (blk_lt (g := gb343) (o := .cells #[.int .i64 t339, .int .i64 t340, .int .i64 t341, .int .i64 t342] 34 (0, 0)) (kbq11 BK343.out)) : gb343 ≠ gb358)); have n7_ := Aside0.mk ((by rw [hg]; exact Nat.ne_of_gt (blk_lt (g := gb343) (o := .cells #[.int .i64 t339, .int .i64 t340, .int .i64 t341, .int .i64 t342] 34 (0, 0)) (kbq11 BK343.out)) : gb358 ≠ gb343)); have n8_ := Aside0.mk ((by rw [hg]; exact Nat.ne_of_lt (blk_lt (g := gb354) (o := .cells #[.int .i64 t349, .int .i64 t350, .int .i64 t351, .int .i64 t352] 34 (0, 0)) (kbq11 BK354.out)) : gb354 ≠ gb358)); have n9_ := Aside0.mk ((by rw [hg]; exact Nat.ne_of_gt (blk_lt (g := gb354) (o := .cells #[.int .i64 t349, .int .i64 t350, .int .i64 t351, .int .i64 t352] 34 (0, 0)) (kbq11 BK354.out)) : gb358 ≠ gb354)); clear BK343; clear BK354; clear HB; have BK343 := n0_; have BK354 := n1_; have HB := n2_; have BK358 := n3_; have GW358 := n4_; have GE358 := n5_; have NB343_358 := n6_; have NB358_343 := n7_; have NB354_358 := n8_; have NB358_354 := n9_; clear n0_ n1_ n2_ n3_ n4_ n5_ n6_ n7_ n8_ n9_; clear hb hbox hg; have hnb75 := NB358_343.out; have hnc75 := NB343_358.out; have hnb76 := NB358_354.out; have hnc76 := NB354_358.out; have hcz77_0 : w74.cell? ⟨gb358, 0, none⟩ = some (.int .i64 0) := (blk_cell BK358.out 0).trans rfl; have hcz77_1 : w74.cell? ⟨gb358, 1, none⟩ = some (.int .i64 0) := (blk_cell BK358.out 1).trans rfl; have hfz77_0 := blk_frozen BK358.out 0; have hfz77_1 := blk_frozen BK358.out 1) | ((with_reducible refine gate_callee (f := 19) rfl ?_); refine goesL_ (some 90) rfl rfl Tryd.func19 (by kernel_rfl) rfl #[.agg #[.int .i64 t355, .int .i64 t356]] rfl (by (try simp only [List.map_toArray, List.map_cons, List.map_nil]); first | done | rfl | (simp only [List.length_drop, List.length_take]; rfl)) ?_; (with_reducible refine (impl_DanceFor.calls kj21 t355 t356 t359 t360 _ A40.out).mono ?_); rintro e w78 ⟨rfl, hb⟩; refine ⟨_, rfl, ?_⟩; have n0_ := Aside0.mk (blk_below (g := gb343) (o := .cells #[.int .i64 t339, .int .i64 t340, .int .i64 t341, .int .i64 t342] 34 (0, 0)) (kf1q11 BK343.out NB343_358.out) hb); have n1_ := Aside0.mk (blk_below (g := gb354) (o := .cells #[.int .i64 t349, .int .i64 t350, .int .i64 t351, .int .i64 t352] 34 (0, 0)) (kf1q11 BK354.out NB354_358.out) hb); have n2_ := Aside0.mk (blk_below (g := gb358) (o := .cells #[.int .i64 t355, .int .i64 t356] 24 (0, 0)) (by (with_reducible repeat (first | refine blk_drewN ?_ _ | refine blk_drew ?_ | refine blk_alloc ?_ _)); refine blk_put (cs := #[.int .i64 t355, .int .i64 0]) ?_ 1 _ rfl; (with_reducible repeat (first | refine blk_drewN ?_ _ | refine blk_drew ?_ | refine blk_alloc ?_ _)); refine blk_put (cs := #[.int .i64 0, .int .i64 0]) ?_ 0 _ rfl; (with_reducible repeat (first | refine blk_drewN ?_ _ | refine blk_drew ?_ | refine blk_alloc ?_ _)); exact BK358.out) hb); have n3_ := Aside0.mk (below_step (lb3q11 HB.out GE343.out GE354.out GE358.out) hb); clear BK343; clear BK354; clear BK358; clear HB; have BK343 := n0_; have BK354 := n1_; have BK358 := n2_; have HB := n3_; clear n0_ n1_ n2_ n3_; (try clear hb); (try clear hb2); (try clear hk); (try clear hi)))
             go_ret
             exact ⟨by first | rfl | (simp [errW_none, errW_some] <;> rfl) | (simp [*, errW_none, errW_some] <;> rfl), by repeat (first | (with_reducible first | exact HB.out | apply below_alloc | apply pw_below_drewN | apply below_drew1 | refine below_set ?_ GE343.out | refine below_set ?_ GE354.out | refine below_set ?_ GE358.out) | exact HB.out)⟩
     ·
      replace c15 := Bool.eq_false_iff.mpr c15
      subst c15
      have H1 : ((laws_alive.f kj5).bind fun t348 => (some t348)) = some r := by rw [if_neg (show ¬ (false = true) by decide)] at H; exact H
      clear H
      have H := H1
      clear H1
      replace H := Option.bind_eq_some_iff.mp H
      obtain ⟨t348, A790, H⟩ := H
      replace H : (some t348) = some r := H
      have A79 := Aside0.mk A790
      clear A790
      obtain rfl := Option.some.inj H
      go_wp2_with (first | ((with_reducible refine gate_callee (f := 10) rfl ?_); refine goesL_ (some 40) rfl rfl Tryd.func10 (by kernel_rfl) rfl #[] rfl (by (try simp only [List.map_toArray, List.map_cons, List.map_nil]); first | done | rfl | (simp only [List.length_drop, List.length_take]; rfl)) ?_; (with_reducible refine (laws_alive.calls kj5  t348 _ A79.out).mono ?_); rintro e w80 ⟨rfl, hb⟩; refine ⟨_, rfl, ?_⟩; have n0_ := Aside0.mk (blk_below (g := gb343) (o := .cells #[.int .i64 t339, .int .i64 t340, .int .i64 t341, .int .i64 t342] 34 (0, 0)) (kbq11 BK343.out) hb); have n1_ := Aside0.mk (below_step (lb1q11 HB.out GE343.out) hb); clear BK343; clear HB; have BK343 := n0_; have HB := n1_; clear n0_ n1_; (try clear hb); (try clear hb2); (try clear hk); (try clear hi)))
      go_ret
      exact ⟨by first | rfl | (simp [errW_none, errW_some] <;> rfl) | (simp [*, errW_none, errW_some] <;> rfl), by repeat (first | (with_reducible first | exact HB.out | apply below_alloc | apply pw_below_drewN | apply below_drew1 | refine below_set ?_ GE343.out) | exact HB.out)⟩

/-- THE ONE PURE STATEMENT of laws_FnNormalOf: yours. -/
def laws_FnNormalOf.Pure : Prop := ∀ (l0 : List Int), l0.length ≤ maxLen → l0.length * 1 ≤ 140737488351232 → (∀ x ∈ l0, (Lit.int .u8 x).wf = true) → ∃ k, laws_FnNormalOf.f k l0 = some true
theorem laws_FnNormalOf.walk (P : laws_FnNormalOf.Pure) (a0 : Option Addr) (len0 cap0 : Nat) (z0 : List Int) (w : World) (w0 : (a0 = none ∧ len0 = 0 ∧ cap0 = 0 ∧ z0 = []) ∨ ∃ x, a0 = some x ∧ len0 ≤ cap0 ∧ cap0 ≤ maxLen ∧ z0.length = cap0 ∧ (∀ i, i < z0.length → w.cell? (x.add i) = some (.int .u8 (z0.getD i 0))) ∧ ∀ n ∈ z0, (Lit.int .u8 n).wf = true) (y0 : len0 * 1 ≤ 140737488351232) :
    Calls Tryd.prog 5 #[.slice a0 len0 cap0] w fun e w' => e = .returned (.bool true) ∧ Below w.heap.size w w' := by
  obtain ⟨l0, rfl, hr0, hm0, hw0, hc0⟩ := ReadsInt.ofRowC w0
  obtain ⟨k, h⟩ := P l0 hm0 y0 hw0
  refine (laws_FnNormalOf.calls k _ _ l0 true w (Kd.C_of_reads (d := (0 : Int)) (h1 := fun _ => rfl) hr0) hc0 h).mono ?_
  rintro e w' ⟨rfl, hd⟩
  exact ⟨rfl, hd⟩

end Go.Proofs.YtebihngdlokhfaaDoor.PFnNormalOf
