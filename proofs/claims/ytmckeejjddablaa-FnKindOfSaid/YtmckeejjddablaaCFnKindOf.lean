/- The walk of the law FnKindOf on the ways on which it answers true (lines that the kit's print wrote, the other ways struck). -/
import Derived.Test.YtmckeejjddablaaPFnKindOfx0
import Derived.Test.YtmckeejjddablaaPFnKindOfx1
import Derived.Test.YtmckeejjddablaaPFnKindOfx3
import Derived.Test.YtmckeejjddablaaPFnKindOfx4
namespace Go.Proofs.Ytmckeejjddablaa.PFnKindOf
open Go.RowKit Go.Proofs.YtmckeejjddablaaW.PrintWords Go.Proofs.YtmckeejjddablaaW.PrintLast Go.Proofs.YtmckeejjddablaaW.PrintMore
attribute [local go_sem] max2_int min2_int max_two min_two max_three min_three max_four min_four   -- for this text's walks alone
set_option linter.unusedVariables false
set_option linter.unusedSimpArgs false

/-! ### laws_FnKindOf: function 6 -/
def laws_FnKindOf.f (k : Nat) (l0 : List Int) : Option (Bool) := if (l0.length : Int) > 1048576 then (some true) else ((spec_DrawKindOf.f k l0).bind fun bt180 => ((impl_KindOf.f k bt180.1 bt180.2).bind fun t183 => ((spec_KindOf.f k bt180.1 bt180.2).bind fun t184 => (if t183 = t184 then (if t183 < 0 then (if t183 = (-1) then ((laws_alive.f k).bind fun t185 => (some t185)) else (some false)) else ((impl_PlusOf.f k bt180.1 bt180.2 1).bind fun bt186 => ((impl_OverOf.f k bt180.1 bt180.2).bind fun bt190 => ((impl_KindOf.f k bt190.1 bt190.2).bind fun t192 => ((some (([1, 0, 2] : List Int) : List Int)).bind fun y193 => (if 0 ≤ t183 then (if t183 < (y193.length : Int) then (if t192 = (rd y193 t183) then (if bt186.2.2 = true then ((impl_KindOf.f k bt186.1 bt186.2.1).bind fun t197 => ((some (([2, 1, 0] : List Int) : List Int)).bind fun y198 => (if t183 < (y198.length : Int) then (some (t197 == (rd y198 t183))) else (none)))) else (some true)) else (some false)) else (none)) else (none))))))) else (some false)))))
theorem laws_FnKindOf.mono : ∀ a0 k, LeO (laws_FnKindOf.f k a0) (laws_FnKindOf.f (k + 1) a0) := by
  intro a0 k
  unfold laws_FnKindOf.f
  repeat' first
      | (with_reducible exact impl_KindOf.mono _ _ _)
      | (with_reducible exact impl_OverOf.mono _ _ _)
      | (with_reducible exact impl_PlusOf.mono _ _ _ _)
      | (with_reducible exact laws_alive.mono _)
      | (with_reducible exact spec_DrawKindOf.mono _ _)
      | (with_reducible exact spec_KindOf.mono _ _ _)
      | (with_reducible exact LeO.refl _)
      | (with_reducible exact LeO.none _)
      | (with_reducible refine LeO.ite ?_ ?_)
      | (with_reducible refine LeO.bind ?_ (fun _ => ?_))
      | exact impl_KindOf.mono _ _ _
      | exact impl_OverOf.mono _ _ _
      | exact impl_PlusOf.mono _ _ _ _
      | exact laws_alive.mono _
      | exact spec_DrawKindOf.mono _ _
      | exact spec_KindOf.mono _ _ _
      | exact LeO.none _
      | refine LeO.ite ?_ ?_
      | refine LeO.bind ?_ (fun _ => ?_)
def laws_FnKindOf.T10 : Bool × List (List Nat × List Nat) := (true, [([], []), ([0], [0]), ([1, 1], [1]), ([], []), ([], []), ([3, 4], [3, 4]), ([5], [5]), ([2, 6], [2, 6]), ([7, 2], [7]), ([8], [8]), ([9, 8], [8, 9]), ([10, 8, 8], [8, 10]), ([11], [11]), ([12, 11, 11], [11, 12]), ([11], [11]), ([11], [11]), ([14, 15, 11], [11, 14, 15]), ([16, 11], [11, 16]), ([13, 17, 11], [11, 13, 17]), ([11, 18, 8], [8, 11, 18]), ([8, 19], [8, 19]), ([20, 13, 0, 1, 2, 3, 4, 5, 6, 7, 8, 9, 10, 11, 12, 13, 14, 15, 16, 17, 18, 19, 20], [20])])
def laws_FnKindOf.B10 : List Nat := [0, 1, 3, 0, 0, 24, 56, 127, 255, 511, 1023, 2047, 4095, 8191, 4095, 4095, 53247, 118783, 262143, 524287, 1048575, 2097151]
theorem laws_FnKindOf.tab10 : rtab .any (opsOf Try.f6 10) = laws_FnKindOf.T10 := by kernel_rfl
theorem laws_FnKindOf.bits10 : waitsOk laws_FnKindOf.T10.2 laws_FnKindOf.B10 = true := by kernel_rfl
set_option maxHeartbeats 8000000 in
set_option maxRecDepth 100000 in
theorem laws_FnKindOf.calls (k : Nat) (A0 : Option Addr) (c0 : Nat) (l0 : List Int) (r : Bool) (hr : r = true) (w : World) (hr0 : Kd.C (Kd.int .u8) w A0 l0.length l0) (hc0 : l0.length ≤ c0) (h : laws_FnKindOf.f k l0 = some r) :
    Calls Try.prog 6 #[.slice A0 l0.length c0] w fun e w' => e = .returned (.bool r) ∧ Below w.heap.size w w' := by
  have hu25 := Try.underlying25
  have HR0 := Aside0.mk hr0
  have HC0 := Aside0.mk hc0
  clear hr0 hc0
  have HB := Aside0.mk (Below.refl w.heap.size w)
  have H : (if (l0.length : Int) > 1048576 then (some true) else ((spec_DrawKindOf.f k l0).bind fun bt180 => ((impl_KindOf.f k bt180.1 bt180.2).bind fun t183 => ((spec_KindOf.f k bt180.1 bt180.2).bind fun t184 => (if t183 = t184 then (if t183 < 0 then (if t183 = (-1) then ((laws_alive.f k).bind fun t185 => (some t185)) else (some false)) else ((impl_PlusOf.f k bt180.1 bt180.2 1).bind fun bt186 => ((impl_OverOf.f k bt180.1 bt180.2).bind fun bt190 => ((impl_KindOf.f k bt190.1 bt190.2).bind fun t192 => ((some (([1, 0, 2] : List Int) : List Int)).bind fun y193 => (if 0 ≤ t183 then (if t183 < (y193.length : Int) then (if t192 = (rd y193 t183) then (if bt186.2.2 = true then ((impl_KindOf.f k bt186.1 bt186.2.1).bind fun t197 => ((some (([2, 1, 0] : List Int) : List Int)).bind fun y198 => (if t183 < (y198.length : Int) then (some (t197 == (rd y198 t183))) else (none)))) else (some true)) else (some false)) else (none)) else (none))))))) else (some false)))))) = some r := h
  clear h
  by_cases c2 : (l0.length : Int) > 1048576
  · rw [if_pos c2] at H
    have c2b0 : decide (1048576 < (l0.length : Int)) = true := decide_eq_true c2
    have c2b1 : decide (1048576 < l0.length) = true := decide_eq_true (by omega)
    clear c2
    obtain rfl := Option.some.inj H
    go_enter Try.func6, Try.ntmps6
    go_wp2
    go_ret
    exact ⟨by first | rfl | (simp [errW_none, errW_some] <;> rfl) | (simp [*, errW_none, errW_some] <;> rfl), by repeat (first | (with_reducible first | exact HB.out | apply below_alloc | apply pw_below_drewN | apply below_drew1) | exact HB.out)⟩
  · rw [if_neg c2] at H
    have c2b0 : decide (1048576 < (l0.length : Int)) = false := decide_eq_false c2
    have c2b1 : decide (1048576 < l0.length) = false := decide_eq_false (by omega)
    clear c2
    replace H := Option.bind_eq_some_iff.mp H
    obtain ⟨⟨t180, t181⟩, A30, H⟩ := H
    replace H : ((impl_KindOf.f k t180 t181).bind fun t183 => ((spec_KindOf.f k t180 t181).bind fun t184 => (if t183 = t184 then (if t183 < 0 then (if t183 = (-1) then ((laws_alive.f k).bind fun t185 => (some t185)) else (some false)) else ((impl_PlusOf.f k t180 t181 1).bind fun bt186 => ((impl_OverOf.f k t180 t181).bind fun bt190 => ((impl_KindOf.f k bt190.1 bt190.2).bind fun t192 => ((some (([1, 0, 2] : List Int) : List Int)).bind fun y193 => (if 0 ≤ t183 then (if t183 < (y193.length : Int) then (if t192 = (rd y193 t183) then (if bt186.2.2 = true then ((impl_KindOf.f k bt186.1 bt186.2.1).bind fun t197 => ((some (([2, 1, 0] : List Int) : List Int)).bind fun y198 => (if t183 < (y198.length : Int) then (some (t197 == (rd y198 t183))) else (none)))) else (some true)) else (some false)) else (none)) else (none))))))) else (some false)))) = some r := H
    have A3 := Aside0.mk A30
    clear A30
    replace H := Option.bind_eq_some_iff.mp H
    obtain ⟨t183, A40, H⟩ := H
    replace H : ((spec_KindOf.f k t180 t181).bind fun t184 => (if t183 = t184 then (if t183 < 0 then (if t183 = (-1) then ((laws_alive.f k).bind fun t185 => (some t185)) else (some false)) else ((impl_PlusOf.f k t180 t181 1).bind fun bt186 => ((impl_OverOf.f k t180 t181).bind fun bt190 => ((impl_KindOf.f k bt190.1 bt190.2).bind fun t192 => ((some (([1, 0, 2] : List Int) : List Int)).bind fun y193 => (if 0 ≤ t183 then (if t183 < (y193.length : Int) then (if t192 = (rd y193 t183) then (if bt186.2.2 = true then ((impl_KindOf.f k bt186.1 bt186.2.1).bind fun t197 => ((some (([2, 1, 0] : List Int) : List Int)).bind fun y198 => (if t183 < (y198.length : Int) then (some (t197 == (rd y198 t183))) else (none)))) else (some true)) else (some false)) else (none)) else (none))))))) else (some false))) = some r := H
    have A4 := Aside0.mk A40
    clear A40
    replace H := Option.bind_eq_some_iff.mp H
    obtain ⟨t184, A50, H⟩ := H
    replace H : (if t183 = t184 then (if t183 < 0 then (if t183 = (-1) then ((laws_alive.f k).bind fun t185 => (some t185)) else (some false)) else ((impl_PlusOf.f k t180 t181 1).bind fun bt186 => ((impl_OverOf.f k t180 t181).bind fun bt190 => ((impl_KindOf.f k bt190.1 bt190.2).bind fun t192 => ((some (([1, 0, 2] : List Int) : List Int)).bind fun y193 => (if 0 ≤ t183 then (if t183 < (y193.length : Int) then (if t192 = (rd y193 t183) then (if bt186.2.2 = true then ((impl_KindOf.f k bt186.1 bt186.2.1).bind fun t197 => ((some (([2, 1, 0] : List Int) : List Int)).bind fun y198 => (if t183 < (y198.length : Int) then (some (t197 == (rd y198 t183))) else (none)))) else (some true)) else (some false)) else (none)) else (none))))))) else (some false)) = some r := H
    have A5 := Aside0.mk A50
    clear A50
    by_cases c6 : t183 = t184
    · rw [if_pos c6] at H
      have c6b0 : (t183 == t184) = true := beq_iff_eq.mpr c6
      have c6b1 : (t183 != t184) = false := bne_eq_false_iff_eq.mpr c6
      clear c6
      by_cases c7 : t183 < 0
      · rw [if_pos c7] at H
        have c7b0 : decide (t183 < 0) = true := decide_eq_true c7
        clear c7
        by_cases c8 : t183 = (-1)
        · rw [if_pos c8] at H
          have c8b0 : (t183 == (-1)) = true := beq_iff_eq.mpr c8
          have c8b1 : (t183 != (-1)) = false := bne_eq_false_iff_eq.mpr c8
          clear c8
          replace H := Option.bind_eq_some_iff.mp H
          obtain ⟨t185, A90, H⟩ := H
          replace H : (some t185) = some r := H
          have A9 := Aside0.mk A90
          clear A90
          obtain rfl := Option.some.inj H
          go_enter Try.func6, Try.ntmps6
          go_wp2_with (first | ((with_reducible refine gate_callee (f := 28) rfl ?_); refine goesL_ (some 11) rfl rfl Try.func28 (by kernel_rfl) rfl #[.slice A0 l0.length c0] rfl (by (try simp only [List.map_toArray, List.map_cons, List.map_nil]); first | done | rfl | (simp only [List.length_drop, List.length_take]; rfl)) ?_; (with_reducible refine (spec_DrawKindOf.calls k _ _ l0 t180 t181 _ ?side1 ?side2 A3.out).mono ?_); (case side1 => repeat (first | exact HR0.out | (with_reducible refine Kd.C_alloc ?_ _) | (with_reducible refine Kd.C_drewN ?_ _) | (with_reducible refine Kd.C_drew ?_))); (case side2 => exact HC0.out); rintro e w10 ⟨rfl, hb⟩; refine ⟨_, rfl, ?_⟩; have n0_ := Aside0.mk (below_step (by repeat (first | (with_reducible first | exact HB.out | apply below_alloc | apply pw_below_drewN | apply below_drew1) | exact HB.out)) hb); clear HB; have HB := n0_; clear n0_; (try clear hb); (try clear hb2); (try clear hk); (try clear hi)) | ((with_reducible refine gate_dst (N := 3) rfl ?_); (try (refine gate_guard (by rfl) ?_; dsimp only)); refine box_event ?hg (N := 3) ?hd (cs := #[.int .i64 0, .int .i64 0]) (t := 25) ?hr ?_; (case hd => rfl); (case hg => first | rfl | exact wanted_on rfl rfl rfl (e41.trans (by first | rfl | (simp [*]; done)))); (case hr => first | (go_simp; done) | (go_simp; rfl)); intro gb182 hg w11 hbox hb; have n0_ := Aside0.mk (below_step (by repeat (first | (with_reducible first | exact HB.out | apply below_alloc | apply pw_below_drewN | apply below_drew1) | exact HB.out)) hb); have n1_ := Aside0.mk (hbox); have n2_ := Aside0.mk ((by rw [hg]; exact (below_size (by repeat (first | (with_reducible first | exact HB.out | apply below_alloc | apply pw_below_drewN | apply below_drew1) | exact HB.out))) : w.heap.size ≤ gb182)); have n3_ := Aside0.mk ((by rw [hg]; exact (below_size (by repeat (first | (with_reducible first | exact HB.out | apply below_alloc | apply pw_below_drewN | apply below_drew1) | exact HB.out))) : w.heap.size ≤ gb182)); clear HB; have HB := n0_; have BK182 := n1_; have GW182 := n2_; have GE182 := n3_; clear n0_ n1_ n2_ n3_; clear hb hbox hg; have hcz12_0 : w11.cell? ⟨gb182, 0, none⟩ = some (.int .i64 0) := (blk_cell BK182.out 0).trans rfl; have hcz12_1 : w11.cell? ⟨gb182, 1, none⟩ = some (.int .i64 0) := (blk_cell BK182.out 1).trans rfl; have hfz12_0 := blk_frozen BK182.out 0; have hfz12_1 := blk_frozen BK182.out 1) | ((with_reducible refine gate_callee (f := 29) rfl ?_); refine goesL_ (some 13) rfl rfl Try.func29 (by kernel_rfl) rfl #[.agg #[.int .i64 t180, .int .i64 t181]] rfl (by (try simp only [List.map_toArray, List.map_cons, List.map_nil]); first | done | rfl | (simp only [List.length_drop, List.length_take]; rfl)) ?_; (with_reducible refine (impl_KindOf.calls k t180 t181 t183 _ A4.out).mono ?_); rintro e w13 ⟨rfl, hb⟩; refine ⟨_, rfl, ?_⟩; have n0_ := Aside0.mk (blk_below (g := gb182) (o := .cells #[.int .i64 t180, .int .i64 t181] 25 (0, 0)) (by (with_reducible repeat (first | refine blk_drewN ?_ _ | refine blk_drew ?_ | refine blk_alloc ?_ _)); refine blk_put (cs := #[.int .i64 t180, .int .i64 0]) ?_ 1 _ rfl; (with_reducible repeat (first | refine blk_drewN ?_ _ | refine blk_drew ?_ | refine blk_alloc ?_ _)); refine blk_put (cs := #[.int .i64 0, .int .i64 0]) ?_ 0 _ rfl; (with_reducible repeat (first | refine blk_drewN ?_ _ | refine blk_drew ?_ | refine blk_alloc ?_ _)); exact BK182.out) hb); have n1_ := Aside0.mk (below_step (by repeat (first | (with_reducible first | exact HB.out | apply below_alloc | apply pw_below_drewN | apply below_drew1 | refine below_set ?_ GE182.out) | exact HB.out)) hb); clear BK182; clear HB; have BK182 := n0_; have HB := n1_; clear n0_ n1_; (try clear hb); (try clear hb2); (try clear hk); (try clear hi); have hcz14_0 : w13.cell? ⟨gb182, 0, none⟩ = some (.int .i64 t180) := (blk_cell BK182.out 0).trans rfl; have hcz14_1 : w13.cell? ⟨gb182, 1, none⟩ = some (.int .i64 t181) := (blk_cell BK182.out 1).trans rfl; have hfz14_0 := blk_frozen BK182.out 0; have hfz14_1 := blk_frozen BK182.out 1) | ((with_reducible refine gate_callee (f := 30) rfl ?_); refine goesL_ (some 16) rfl rfl Try.func30 (by kernel_rfl) rfl #[.agg #[.int .i64 t180, .int .i64 t181]] rfl (by (try simp only [List.map_toArray, List.map_cons, List.map_nil]); first | done | rfl | (simp only [List.length_drop, List.length_take]; rfl)) ?_; (with_reducible refine (spec_KindOf.calls k t180 t181 t184 _ A5.out).mono ?_); rintro e w15 ⟨rfl, hb⟩; refine ⟨_, rfl, ?_⟩; have n0_ := Aside0.mk (blk_below (g := gb182) (o := .cells #[.int .i64 t180, .int .i64 t181] 25 (0, 0)) (by (with_reducible repeat (first | refine blk_drewN ?_ _ | refine blk_drew ?_ | refine blk_alloc ?_ _)); exact BK182.out) hb); have n1_ := Aside0.mk (below_step (by repeat (first | (with_reducible first | exact HB.out | apply below_alloc | apply pw_below_drewN | apply below_drew1 | refine below_set ?_ GE182.out) | exact HB.out)) hb); clear BK182; clear HB; have BK182 := n0_; have HB := n1_; clear n0_ n1_; (try clear hb); (try clear hb2); (try clear hk); (try clear hi)) | (go_at_call 27; (with_reducible refine (laws_alive.calls k  t185 _ A9.out).mono ?_); rintro e w16 ⟨rfl, hb⟩; have n0_ := Aside0.mk (blk_below (g := gb182) (o := .cells #[.int .i64 t180, .int .i64 t181] 25 (0, 0)) (by (with_reducible repeat (first | refine blk_drewN ?_ _ | refine blk_drew ?_ | refine blk_alloc ?_ _)); exact BK182.out) hb); have n1_ := Aside0.mk (below_step (by repeat (first | (with_reducible first | exact HB.out | apply below_alloc | apply pw_below_drewN | apply below_drew1 | refine below_set ?_ GE182.out) | exact HB.out)) hb); clear BK182; clear HB; have BK182 := n0_; have HB := n1_; clear n0_ n1_; (try clear hb); (try clear hb2); (try clear hk); (try clear hi)))
          go_ret
          exact ⟨by first | rfl | (simp [errW_none, errW_some] <;> rfl) | (simp [*, errW_none, errW_some] <;> rfl), by repeat (first | (with_reducible first | exact HB.out | apply below_alloc | apply pw_below_drewN | apply below_drew1 | refine below_set ?_ GE182.out) | exact HB.out)⟩
        · rw [if_neg c8] at H
          have c8b0 : (t183 == (-1)) = false := beq_eq_false_iff_ne.mpr c8
          have c8b1 : (t183 != (-1)) = true := bne_iff_ne.mpr c8
          exact absurd ((Option.some.inj H).trans hr) (by simp)
      · rw [if_neg c7] at H
        have c7b0 : decide (t183 < 0) = false := decide_eq_false c7
        clear c7
        replace H := Option.bind_eq_some_iff.mp H
        obtain ⟨⟨t186, t187, t188⟩, A230, H⟩ := H
        replace H : ((impl_OverOf.f k t180 t181).bind fun bt190 => ((impl_KindOf.f k bt190.1 bt190.2).bind fun t192 => ((some (([1, 0, 2] : List Int) : List Int)).bind fun y193 => (if 0 ≤ t183 then (if t183 < (y193.length : Int) then (if t192 = (rd y193 t183) then (if t188 = true then ((impl_KindOf.f k t186 t187).bind fun t197 => ((some (([2, 1, 0] : List Int) : List Int)).bind fun y198 => (if t183 < (y198.length : Int) then (some (t197 == (rd y198 t183))) else (none)))) else (some true)) else (some false)) else (none)) else (none))))) = some r := H
        have A23 := Aside0.mk A230
        clear A230
        replace H := Option.bind_eq_some_iff.mp H
        obtain ⟨⟨t190, t191⟩, A240, H⟩ := H
        replace H : ((impl_KindOf.f k t190 t191).bind fun t192 => ((some (([1, 0, 2] : List Int) : List Int)).bind fun y193 => (if 0 ≤ t183 then (if t183 < (y193.length : Int) then (if t192 = (rd y193 t183) then (if t188 = true then ((impl_KindOf.f k t186 t187).bind fun t197 => ((some (([2, 1, 0] : List Int) : List Int)).bind fun y198 => (if t183 < (y198.length : Int) then (some (t197 == (rd y198 t183))) else (none)))) else (some true)) else (some false)) else (none)) else (none)))) = some r := H
        have A24 := Aside0.mk A240
        clear A240
        replace H := Option.bind_eq_some_iff.mp H
        obtain ⟨t192, A250, H⟩ := H
        replace H : ((some (([1, 0, 2] : List Int) : List Int)).bind fun y193 => (if 0 ≤ t183 then (if t183 < (y193.length : Int) then (if t192 = (rd y193 t183) then (if t188 = true then ((impl_KindOf.f k t186 t187).bind fun t197 => ((some (([2, 1, 0] : List Int) : List Int)).bind fun y198 => (if t183 < (y198.length : Int) then (some (t197 == (rd y198 t183))) else (none)))) else (some true)) else (some false)) else (none)) else (none))) = some r := H
        have A25 := Aside0.mk A250
        clear A250
        obtain ⟨y193, hy193⟩ : ∃ y_ : List Int, y_ = (([1, 0, 2] : List Int)) := ⟨_, rfl⟩
        replace H : (if 0 ≤ t183 then (if t183 < (y193.length : Int) then (if t192 = (rd y193 t183) then (if t188 = true then ((impl_KindOf.f k t186 t187).bind fun t197 => ((some (([2, 1, 0] : List Int) : List Int)).bind fun y198 => (if t183 < (y198.length : Int) then (some (t197 == (rd y198 t183))) else (none)))) else (some true)) else (some false)) else (none)) else (none)) = some r := by first | (rw [hy193]; with_reducible exact H) | (have H2_ := (Option.bind_some _ _).symm.trans H; rw [hy193]; with_reducible exact H2_) | (have H2_ := (Option.bind_some _ _).symm.trans H; with_reducible exact H2_) | with_reducible exact H | (rw [hy193]; exact H) | exact H
        have Ny193 := Aside0.mk hy193
        clear hy193
        by_cases c26 : 0 ≤ t183
        · rw [if_pos c26] at H
          have c26b0 : decide (0 ≤ t183) = true := decide_eq_true c26
          clear c26
          by_cases c27 : t183 < (y193.length : Int)
          · rw [if_pos c27] at H
            have c27b0 : decide (t183 < (y193.length : Int)) = true := decide_eq_true c27
            clear c27
            by_cases c28 : t192 = (rd y193 t183)
            · rw [if_pos c28] at H
              have c28b0 : (t192 == (rd y193 t183)) = true := beq_iff_eq.mpr c28
              have c28b1 : (t192 != (rd y193 t183)) = false := bne_eq_false_iff_eq.mpr c28
              clear c28
              by_cases c29 : t188 = true
              · subst c29
                have H1 : ((impl_KindOf.f k t186 t187).bind fun t197 => ((some (([2, 1, 0] : List Int) : List Int)).bind fun y198 => (if t183 < (y198.length : Int) then (some (t197 == (rd y198 t183))) else (none)))) = some r := by rw [if_pos rfl] at H; exact H
                clear H
                have H := H1
                clear H1
                replace H := Option.bind_eq_some_iff.mp H
                obtain ⟨t197, A300, H⟩ := H
                replace H : ((some (([2, 1, 0] : List Int) : List Int)).bind fun y198 => (if t183 < (y198.length : Int) then (some (t197 == (rd y198 t183))) else (none))) = some r := H
                have A30 := Aside0.mk A300
                clear A300
                obtain ⟨y198, hy198⟩ : ∃ y_ : List Int, y_ = (([2, 1, 0] : List Int)) := ⟨_, rfl⟩
                replace H : (if t183 < (y198.length : Int) then (some (t197 == (rd y198 t183))) else (none)) = some r := by first | (rw [hy198]; with_reducible exact H) | (have H2_ := (Option.bind_some _ _).symm.trans H; rw [hy198]; with_reducible exact H2_) | (have H2_ := (Option.bind_some _ _).symm.trans H; with_reducible exact H2_) | with_reducible exact H | (rw [hy198]; exact H) | exact H
                have Ny198 := Aside0.mk hy198
                clear hy198
                by_cases c31 : t183 < (y198.length : Int)
                · rw [if_pos c31] at H
                  have c31b0 : decide (t183 < (y198.length : Int)) = true := decide_eq_true c31
                  clear c31
                  obtain rfl := Option.some.inj H
                  go_enter Try.func6, Try.ntmps6
                  try go_wp2_with (first | ((with_reducible refine gate_callee (f := 28) rfl ?_); refine goesL_ (some 11) rfl rfl Try.func28 (by kernel_rfl) rfl #[.slice A0 l0.length c0] rfl (by (try simp only [List.map_toArray, List.map_cons, List.map_nil]); first | done | rfl | (simp only [List.length_drop, List.length_take]; rfl)) ?_; (with_reducible refine (spec_DrawKindOf.calls k _ _ l0 t180 t181 _ ?side1 ?side2 A3.out).mono ?_); (case side1 => repeat (first | exact HR0.out | (with_reducible refine Kd.C_alloc ?_ _) | (with_reducible refine Kd.C_drewN ?_ _) | (with_reducible refine Kd.C_drew ?_))); (case side2 => exact HC0.out); rintro e w32 ⟨rfl, hb⟩; refine ⟨_, rfl, ?_⟩; have n0_ := Aside0.mk (below_step (by repeat (first | (with_reducible first | exact HB.out | apply below_alloc | apply pw_below_drewN | apply below_drew1) | exact HB.out)) hb); clear HB; have HB := n0_; clear n0_; (try clear hb); (try clear hb2); (try clear hk); (try clear hi)) | ((with_reducible refine gate_dst (N := 3) rfl ?_); (try (refine gate_guard (by rfl) ?_; dsimp only)); refine box_event ?hg (N := 3) ?hd (cs := #[.int .i64 0, .int .i64 0]) (t := 25) ?hr ?_; (case hd => rfl); (case hg => first | rfl | exact wanted_on rfl rfl rfl (e41.trans (by first | rfl | (simp [*]; done)))); (case hr => first | (go_simp; done) | (go_simp; rfl)); intro gb182 hg w33 hbox hb; have n0_ := Aside0.mk (below_step (by repeat (first | (with_reducible first | exact HB.out | apply below_alloc | apply pw_below_drewN | apply below_drew1) | exact HB.out)) hb); have n1_ := Aside0.mk (hbox); have n2_ := Aside0.mk ((by rw [hg]; exact (below_size (by repeat (first | (with_reducible first | exact HB.out | apply below_alloc | apply pw_below_drewN | apply below_drew1) | exact HB.out))) : w.heap.size ≤ gb182)); have n3_ := Aside0.mk ((by rw [hg]; exact (below_size (by repeat (first | (with_reducible first | exact HB.out | apply below_alloc | apply pw_below_drewN | apply below_drew1) | exact HB.out))) : w.heap.size ≤ gb182)); clear HB; have HB := n0_; have BK182 := n1_; have GW182 := n2_; have GE182 := n3_; clear n0_ n1_ n2_ n3_; clear hb hbox hg; have hcz34_0 : w33.cell? ⟨gb182, 0, none⟩ = some (.int .i64 0) := (blk_cell BK182.out 0).trans rfl; have hcz34_1 : w33.cell? ⟨gb182, 1, none⟩ = some (.int .i64 0) := (blk_cell BK182.out 1).trans rfl; have hfz34_0 := blk_frozen BK182.out 0; have hfz34_1 := blk_frozen BK182.out 1) | ((with_reducible refine gate_callee (f := 29) rfl ?_); refine goesL_ (some 13) rfl rfl Try.func29 (by kernel_rfl) rfl #[.agg #[.int .i64 t180, .int .i64 t181]] rfl (by (try simp only [List.map_toArray, List.map_cons, List.map_nil]); first | done | rfl | (simp only [List.length_drop, List.length_take]; rfl)) ?_; (with_reducible refine (impl_KindOf.calls k t180 t181 t183 _ A4.out).mono ?_); rintro e w35 ⟨rfl, hb⟩; refine ⟨_, rfl, ?_⟩; have n0_ := Aside0.mk (blk_below (g := gb182) (o := .cells #[.int .i64 t180, .int .i64 t181] 25 (0, 0)) (by (with_reducible repeat (first | refine blk_drewN ?_ _ | refine blk_drew ?_ | refine blk_alloc ?_ _)); refine blk_put (cs := #[.int .i64 t180, .int .i64 0]) ?_ 1 _ rfl; (with_reducible repeat (first | refine blk_drewN ?_ _ | refine blk_drew ?_ | refine blk_alloc ?_ _)); refine blk_put (cs := #[.int .i64 0, .int .i64 0]) ?_ 0 _ rfl; (with_reducible repeat (first | refine blk_drewN ?_ _ | refine blk_drew ?_ | refine blk_alloc ?_ _)); exact BK182.out) hb); have n1_ := Aside0.mk (below_step (by repeat (first | (with_reducible first | exact HB.out | apply below_alloc | apply pw_below_drewN | apply below_drew1 | refine below_set ?_ GE182.out) | exact HB.out)) hb); clear BK182; clear HB; have BK182 := n0_; have HB := n1_; clear n0_ n1_; (try clear hb); (try clear hb2); (try clear hk); (try clear hi); have hcz36_0 : w35.cell? ⟨gb182, 0, none⟩ = some (.int .i64 t180) := (blk_cell BK182.out 0).trans rfl; have hcz36_1 : w35.cell? ⟨gb182, 1, none⟩ = some (.int .i64 t181) := (blk_cell BK182.out 1).trans rfl; have hfz36_0 := blk_frozen BK182.out 0; have hfz36_1 := blk_frozen BK182.out 1) | ((with_reducible refine gate_callee (f := 30) rfl ?_); refine goesL_ (some 16) rfl rfl Try.func30 (by kernel_rfl) rfl #[.agg #[.int .i64 t180, .int .i64 t181]] rfl (by (try simp only [List.map_toArray, List.map_cons, List.map_nil]); first | done | rfl | (simp only [List.length_drop, List.length_take]; rfl)) ?_; (with_reducible refine (spec_KindOf.calls k t180 t181 t184 _ A5.out).mono ?_); rintro e w37 ⟨rfl, hb⟩; refine ⟨_, rfl, ?_⟩; have n0_ := Aside0.mk (blk_below (g := gb182) (o := .cells #[.int .i64 t180, .int .i64 t181] 25 (0, 0)) (by (with_reducible repeat (first | refine blk_drewN ?_ _ | refine blk_drew ?_ | refine blk_alloc ?_ _)); exact BK182.out) hb); have n1_ := Aside0.mk (below_step (by repeat (first | (with_reducible first | exact HB.out | apply below_alloc | apply pw_below_drewN | apply below_drew1 | refine below_set ?_ GE182.out) | exact HB.out)) hb); clear BK182; clear HB; have BK182 := n0_; have HB := n1_; clear n0_ n1_; (try clear hb); (try clear hb2); (try clear hk); (try clear hi); have hcz38_0 : w37.cell? ⟨gb182, 0, none⟩ = some (.int .i64 t180) := (blk_cell BK182.out 0).trans rfl; have hcz38_1 : w37.cell? ⟨gb182, 1, none⟩ = some (.int .i64 t181) := (blk_cell BK182.out 1).trans rfl; have hfz38_0 := blk_frozen BK182.out 0; have hfz38_1 := blk_frozen BK182.out 1) | ((with_reducible refine gate_callee (f := 31) rfl ?_); refine goesL_ (some 27) rfl rfl Try.func31 (by kernel_rfl) rfl #[.agg #[.int .i64 t180, .int .i64 t181], .int .i64 1] rfl (by (try simp only [List.map_toArray, List.map_cons, List.map_nil]); first | done | rfl | (simp only [List.length_drop, List.length_take]; rfl)) ?_; (with_reducible refine (impl_PlusOf.calls k t180 t181 1 t186 t187 true _ A23.out).mono ?_); rintro e w39 ⟨rfl, hb⟩; refine ⟨_, rfl, ?_⟩; have n0_ := Aside0.mk (blk_below (g := gb182) (o := .cells #[.int .i64 t180, .int .i64 t181] 25 (0, 0)) (by (with_reducible repeat (first | refine blk_drewN ?_ _ | refine blk_drew ?_ | refine blk_alloc ?_ _)); exact BK182.out) hb); have n1_ := Aside0.mk (below_step (by repeat (first | (with_reducible first | exact HB.out | apply below_alloc | apply pw_below_drewN | apply below_drew1 | refine below_set ?_ GE182.out) | exact HB.out)) hb); clear BK182; clear HB; have BK182 := n0_; have HB := n1_; clear n0_ n1_; (try clear hb); (try clear hb2); (try clear hk); (try clear hi)) | ((with_reducible refine gate_dst (N := 5) rfl ?_); (try (refine gate_guard (by rfl) ?_; dsimp only)); refine box_event ?hg (N := 5) ?hd (cs := #[.int .i64 0, .int .i64 0]) (t := 25) ?hr ?_; (case hd => rfl); (case hg => first | rfl | exact wanted_on rfl rfl rfl (e41.trans (by first | rfl | (simp [*]; done)))); (case hr => first | (go_simp; done) | (go_simp; rfl)); intro gb189 hg w40 hbox hb; have n0_ := Aside0.mk (blk_below (g := gb182) (o := .cells #[.int .i64 t180, .int .i64 t181] 25 (0, 0)) (by (with_reducible repeat (first | refine blk_drewN ?_ _ | refine blk_drew ?_ | refine blk_alloc ?_ _)); exact BK182.out) hb); have n1_ := Aside0.mk (below_step (by repeat (first | (with_reducible first | exact HB.out | apply below_alloc | apply pw_below_drewN | apply below_drew1 | refine below_set ?_ GE182.out) | exact HB.out)) hb); have n2_ := Aside0.mk (hbox); have n3_ := Aside0.mk ((by rw [hg]; exact (below_size (by repeat (first | (with_reducible first | exact HB.out | apply below_alloc | apply pw_below_drewN | apply below_drew1 | refine below_set ?_ GE182.out) | exact HB.out))) : w.heap.size ≤ gb189)); have n4_ := Aside0.mk ((by rw [hg]; exact (below_size (by repeat (first | (with_reducible first | exact HB.out | apply below_alloc | apply pw_below_drewN | apply below_drew1 | refine below_set ?_ GE182.out) | exact HB.out))) : w.heap.size ≤ gb189)); have n5_ := Aside0.mk ((by rw [hg]; exact Nat.ne_of_lt (blk_lt (g := gb182) (o := .cells #[.int .i64 t180, .int .i64 t181] 25 (0, 0)) (by (with_reducible repeat (first | refine blk_drewN ?_ _ | refine blk_drew ?_ | refine blk_alloc ?_ _)); exact BK182.out)) : gb182 ≠ gb189)); have n6_ := Aside0.mk ((by rw [hg]; exact Nat.ne_of_gt (blk_lt (g := gb182) (o := .cells #[.int .i64 t180, .int .i64 t181] 25 (0, 0)) (by (with_reducible repeat (first | refine blk_drewN ?_ _ | refine blk_drew ?_ | refine blk_alloc ?_ _)); exact BK182.out)) : gb189 ≠ gb182)); clear BK182; clear HB; have BK182 := n0_; have HB := n1_; have BK189 := n2_; have GW189 := n3_; have GE189 := n4_; have NB182_189 := n5_; have NB189_182 := n6_; clear n0_ n1_ n2_ n3_ n4_ n5_ n6_; clear hb hbox hg; have hnb41 := NB189_182.out; have hnc41 := NB182_189.out; have hcz42_0 : w40.cell? ⟨gb189, 0, none⟩ = some (.int .i64 0) := (blk_cell BK189.out 0).trans rfl; have hcz42_1 : w40.cell? ⟨gb189, 1, none⟩ = some (.int .i64 0) := (blk_cell BK189.out 1).trans rfl; have hfz42_0 := blk_frozen BK189.out 0; have hfz42_1 := blk_frozen BK189.out 1))
                  have pi196 : (0 ≤ (t183 : Int)) = True := eq_true (of_decide_eq_true (by first | (with_reducible assumption) | assumption))
                  have qi196 : (t183 < (y193.length : Int)) = True := eq_true (of_decide_eq_true (by first | (with_reducible assumption) | assumption))
                  have pi201 : (0 ≤ (t183 : Int)) = True := eq_true (of_decide_eq_true (by first | (with_reducible assumption) | assumption))
                  have qi201 : (t183 < (y198.length : Int)) = True := eq_true (of_decide_eq_true (by first | (with_reducible assumption) | assumption))
                  have n0_ : Aside0 (((w40.setCell ⟨gb189, 0, none⟩ (.int .i64 t186)).setCell ⟨gb189, 1, none⟩ (.int .i64 t187)).heap[gb182]? = some (.cells #[.int .i64 t180, .int .i64 t181] 25 (0, 0))) := ⟨by (with_reducible repeat (first | refine blk_drewN ?_ _ | refine blk_drew ?_ | refine blk_alloc ?_ _)); refine blk_far ?_ NB182_189.out _; (with_reducible repeat (first | refine blk_drewN ?_ _ | refine blk_drew ?_ | refine blk_alloc ?_ _)); refine blk_far ?_ NB182_189.out _; (with_reducible repeat (first | refine blk_drewN ?_ _ | refine blk_drew ?_ | refine blk_alloc ?_ _)); exact BK182.out⟩
                  have n1_ : Aside0 (((w40.setCell ⟨gb189, 0, none⟩ (.int .i64 t186)).setCell ⟨gb189, 1, none⟩ (.int .i64 t187)).heap[gb189]? = some (.cells #[.int .i64 t186, .int .i64 t187] 25 (0, 0))) := ⟨by (with_reducible repeat (first | refine blk_drewN ?_ _ | refine blk_drew ?_ | refine blk_alloc ?_ _)); refine blk_put (cs := #[.int .i64 t186, .int .i64 0]) ?_ 1 _ rfl; (with_reducible repeat (first | refine blk_drewN ?_ _ | refine blk_drew ?_ | refine blk_alloc ?_ _)); refine blk_put (cs := #[.int .i64 0, .int .i64 0]) ?_ 0 _ rfl; (with_reducible repeat (first | refine blk_drewN ?_ _ | refine blk_drew ?_ | refine blk_alloc ?_ _)); exact BK189.out⟩
                  have n2_ : Aside0 (Below w.heap.size w ((w40.setCell ⟨gb189, 0, none⟩ (.int .i64 t186)).setCell ⟨gb189, 1, none⟩ (.int .i64 t187))) := ⟨by repeat (first | (with_reducible first | exact HB.out | apply below_alloc | apply pw_below_drewN | apply below_drew1 | refine below_set ?_ GE182.out | refine below_set ?_ GE189.out) | exact HB.out)⟩
                  (try clear BK182)
                  (try clear BK189)
                  (try clear HB)
                  generalize ((w40.setCell ⟨gb189, 0, none⟩ (.int .i64 t186)).setCell ⟨gb189, 1, none⟩ (.int .i64 t187)) = w43 at n0_ n1_ n2_ ⊢
                  have BK182 := n0_
                  have BK189 := n1_
                  have HB := n2_
                  clear n0_ n1_ n2_
                  have n0_ := Aside0.mk (blk_drew BK182.out)
                  have n1_ := Aside0.mk (blk_drew BK189.out)
                  have n2_ := Aside0.mk (below_drew1 HB.out)
                  clear BK182
                  clear BK189
                  clear HB
                  have BK182 := n0_
                  have BK189 := n1_
                  have HB := n2_
                  clear n0_ n1_ n2_
                  refine start_ (n := 22) (S := fun w' => True) (ds := []) #[false, false, false, false, false, false, false, false, false, false, false, false, false, false, false, false, false, false, false, false, false, false] (by kernel_rfl) rfl rfl trivial (fun hHeld => ?_); refine with_tabW laws_FnKindOf.tab10 laws_FnKindOf.bits10 (fun HT_ HW_ => ?_)
                  generalize w43.drew = w44 at BK182 BK189 HB hHeld ⊢
                  refine pure_ (i := 4) (N := some 34) (v := ?_) (a' := ?_) #[false, false, false, false, true, false, false, false, false, false, false, false, false, false, false, false, false, false, false, false, false, false] rfl rfl (any_of HT_.out (by kernel_rfl)) (fun _ _ _ h => h) (Or.inl ⟨by rfl, ?_⟩) ?_ ?_
                  rotate_left
                  · intro w'
                    go_simp
                    with_reducible rfl
                  rotate_left
                  · simp only [Act.put, List.setIfInBounds_toArray, List.set_cons_zero, List.set_cons_succ, i64_w, i32_w]
                    rfl
                  refine inv_at [0, 1, 2, 3, 5, 6, 7, 8, 9, 10, 11, 12, 13, 14, 15, 16, 17, 18, 19, 20, 21] (fun a0_ b a w' => ∃ (v194 : Value) (adz_v194 : Addr) (v199 : Value) (adz_v199 : Addr) (m5_ : Value) (m16_ : Value), a = putSel a0_ b [(0, 30, .agg #[.int .i64 t180, .int .i64 t181]), (1, 31, .agg #[.int .i64 t190, .int .i64 t191]), (2, 32, .int .i64 t192), (3, 33, v194), (5, 35, m5_), (6, 36, .int .i64 (rd y193 t183)), (7, 37, .bool (t192 == (rd y193 t183))), (8, 38, .bool (t192 == (rd y193 t183))), (9, 39, .bool true), (10, 40, .bool (!true)), (11, 41, .bool (!true)), (12, 42, .agg #[.int .i64 t186, .int .i64 t187]), (13, 43, .int .i64 t197), (14, 44, v199), (15, 45, .int .i64 t183), (16, 46, m16_), (17, 47, .int .i64 (rd y198 t183)), (18, 48, .bool (t197 == (rd y198 t183))), (19, 49, .bool (t197 == (rd y198 t183))), (20, 50, .bool (t197 == (rd y198 t183))), (21, 2, .bool (t197 == (rd y198 t183)))] ∧ (w'.heap[gb182]? = some (.cells #[.int .i64 t180, .int .i64 t181] 25 (0, 0))) ∧ (w'.heap[gb189]? = some (.cells #[.int .i64 t186, .int .i64 t187] 25 (0, 0))) ∧ (Below w.heap.size w w') ∧ (b 3 = true → Kd.R (Kd.int .i64) 3 w' w.heap.size (fun _ => True) v194 y193) ∧ (b 3 = true → ∃ c_, (v194 : Value) = .slice (some adz_v194) y193.length c_) ∧ (b 14 = true → Kd.R (Kd.int .i64) 3 w' w.heap.size (fun _ => True) v199 y198) ∧ (b 14 = true → ∃ c_, (v199 : Value) = .slice (some adz_v199) y198.length c_) ∧ (b 5 = true → (m5_ : Value) = .pointer (some (adz_v194.add (t183).toNat))) ∧ (b 16 = true → (m16_ : Value) = .pointer (some (adz_v199.add (t183).toNat)))) HT_.out HW_.out (by kernel_rfl) (by kernel_rfl) ?_ ?_ ?_
                  · exact ⟨.bool false, ⟨0, 0, none⟩, .bool false, ⟨0, 0, none⟩, .bool false, .bool false, by simp only [putSel, Bool.false_eq_true, if_false], BK182.out, BK189.out, HB.out, fun h_ => absurd h_ (by decide), fun h_ => absurd h_ (by decide), fun h_ => absurd h_ (by decide), fun h_ => absurd h_ (by decide), fun h_ => absurd h_ (by decide), fun h_ => absurd h_ (by decide)⟩
                  · skip
                    clear BK182 BK189 HB
                    refine steps_cons ?_ ?_
                    · rintro b a w' ⟨v194, adz_v194, v199, adz_v199, m5_, m16_, ha, Q_BK182, Q_BK189, Q_HB, Q_HO195, Q_HA_HO195, Q_HO200, Q_HA_HO200, Q_X5_, Q_X16_⟩ hb_ hon hoff
                      refine ⟨_, rfl, fun K hK => ?_⟩
                      have e3 : a.tmps[3]? = some (.pointer (some ⟨gb182, 0, none⟩)) := by rw [ha]; exact (putSel_off rfl).trans rfl
                      replace ha := Aside0.mk ha
                      have BK182 := Aside0.mk Q_BK182
                      have BK189 := Aside0.mk Q_BK189
                      have HB := Aside0.mk Q_HB
                      have hc0_ : w'.cell? ⟨gb182, 0, none⟩ = some (.int .i64 t180) := (blk_cell BK182.out 0).trans rfl
                      have hc1_ : w'.cell? ⟨gb182, 1, none⟩ = some (.int .i64 t181) := (blk_cell BK182.out 1).trans rfl
                      refine value_ (w1 := w') (v := .agg #[.int .i64 t180, .int .i64 t181]) (by rfl) rfl ?_ ?_
                      · go_simp
                        (try simp only [i64_w])
                        try rfl
                      refine hK.out _ _ ⟨v194, adz_v194, v199, adz_v199, m5_, m16_, (by rw [ha.out]; exact putSel_upk 0 hb_ rfl rfl rfl), Q_BK182, Q_BK189, Q_HB, Q_HO195, Q_HA_HO195, fun h0_ => absurd ((hoff 14 (by kernel_rfl)).symm.trans h0_) (by decide), fun h0_ => absurd ((hoff 14 (by kernel_rfl)).symm.trans h0_) (by decide), Q_X5_, fun h0_ => absurd ((hoff 16 (by kernel_rfl)).symm.trans h0_) (by decide)⟩
                    refine steps_cons ?_ ?_
                    · rintro b a w' ⟨v194, adz_v194, v199, adz_v199, m5_, m16_, ha, Q_BK182, Q_BK189, Q_HB, Q_HO195, Q_HA_HO195, Q_HO200, Q_HA_HO200, Q_X5_, Q_X16_⟩ hb_ hon hoff
                      refine ⟨_, rfl, fun K hK => ?_⟩
                      have e30 : a.tmps[30]? = some (.agg #[.int .i64 t180, .int .i64 t181]) := by rw [ha]; exact putSel_on (e := (0, 30, .agg #[.int .i64 t180, .int .i64 t181])) 0 rfl rfl (hon 0 (by kernel_rfl)) rfl
                      replace ha := Aside0.mk ha
                      have BK182 := Aside0.mk Q_BK182
                      have BK189 := Aside0.mk Q_BK189
                      have HB := Aside0.mk Q_HB
                      refine goes_ Try.func32 (by kernel_rfl) rfl #[.agg #[.int .i64 t180, .int .i64 t181]] (by first | rfl | exact wanted_on rfl rfl rfl (e41.trans (by first | rfl | (simp [*]; done)))) rfl rfl (by first | (simp only [List.map_toArray, List.map_cons, List.map_nil, Act.eval, Array.getD_eq_getD_getElem?, Option.getD_some, e30]; done) | (simp only [List.map_toArray, List.map_cons, List.map_nil, Act.eval, Array.getD_eq_getD_getElem?, Option.getD_some, e30]; rfl)) ?_
                      with_reducible refine (impl_OverOf.calls k t180 t181 t190 t191 _ A24.out).mono ?_
                      rintro e w45 ⟨rfl, hb⟩
                      refine ⟨_, rfl, ?_⟩
                      have n0_ := Aside0.mk (blk_below (g := gb182) (o := .cells #[.int .i64 t180, .int .i64 t181] 25 (0, 0)) (by (with_reducible repeat (first | refine blk_drewN ?_ _ | refine blk_drew ?_ | refine blk_alloc ?_ _)); exact BK182.out) hb)
                      have n1_ := Aside0.mk (blk_below (g := gb189) (o := .cells #[.int .i64 t186, .int .i64 t187] 25 (0, 0)) (by (with_reducible repeat (first | refine blk_drewN ?_ _ | refine blk_drew ?_ | refine blk_alloc ?_ _)); exact BK189.out) hb)
                      have n2_ := Aside0.mk (below_step (by repeat (first | (with_reducible first | exact HB.out | apply below_alloc | apply pw_below_drewN | apply below_drew1 | refine below_set ?_ GE182.out | refine below_set ?_ GE189.out) | exact HB.out)) hb)
                      have z_HO195 := fun (h0_ : b 3 = true) => (show Kd.R (Kd.int .i64) 3 w45 w.heap.size (fun _ => True) v194 y193 from by first | exact (Kd.R_below (by (with_reducible repeat (first | apply Kd.R_alloc | apply Kd.R_drewN | apply Kd.R_drew)); exact (Q_HO195 h0_)) hb) | exact Kd.R_mono (Kd.R_below (by (with_reducible repeat (first | apply Kd.R_alloc | apply Kd.R_drewN | apply Kd.R_drew)); exact (Q_HO195 h0_)) hb) (fun _ h_ => by first | trivial | exact h_ | exact h_.1))
                      clear BK182
                      clear BK189
                      clear HB
                      have BK182 := n0_
                      have BK189 := n1_
                      have HB := n2_
                      clear n0_ n1_ n2_
                      (try clear hb)
                      (try clear hb2)
                      (try clear hk)
                      (try clear hi)
                      refine hK.out _ _ ⟨v194, adz_v194, v199, adz_v199, m5_, m16_, (by rw [ha.out]; exact putSel_upk 1 hb_ rfl rfl rfl), (by (with_reducible repeat (first | refine blk_drewN ?_ _ | refine blk_drew ?_ | refine blk_alloc ?_ _)); exact BK182.out), (by (with_reducible repeat (first | refine blk_drewN ?_ _ | refine blk_drew ?_ | refine blk_alloc ?_ _)); exact BK189.out), (by repeat (first | (with_reducible first | exact HB.out | apply below_alloc | apply pw_below_drewN | apply below_drew1 | refine below_set ?_ GE182.out | refine below_set ?_ GE189.out) | exact HB.out)), z_HO195, Q_HA_HO195, fun h0_ => absurd ((hoff 14 (by kernel_rfl)).symm.trans h0_) (by decide), fun h0_ => absurd ((hoff 14 (by kernel_rfl)).symm.trans h0_) (by decide), Q_X5_, fun h0_ => absurd ((hoff 16 (by kernel_rfl)).symm.trans h0_) (by decide)⟩
                    refine steps_cons ?_ ?_
                    · rintro b a w' ⟨v194, adz_v194, v199, adz_v199, m5_, m16_, ha, Q_BK182, Q_BK189, Q_HB, Q_HO195, Q_HA_HO195, Q_HO200, Q_HA_HO200, Q_X5_, Q_X16_⟩ hb_ hon hoff
                      refine ⟨_, rfl, fun K hK => ?_⟩
                      have e31 : a.tmps[31]? = some (.agg #[.int .i64 t190, .int .i64 t191]) := by rw [ha]; exact putSel_on (e := (1, 31, .agg #[.int .i64 t190, .int .i64 t191])) 1 rfl rfl (hon 1 (by kernel_rfl)) rfl
                      replace ha := Aside0.mk ha
                      have BK182 := Aside0.mk Q_BK182
                      have BK189 := Aside0.mk Q_BK189
                      have HB := Aside0.mk Q_HB
                      refine goes_ Try.func29 (by kernel_rfl) rfl #[.agg #[.int .i64 t190, .int .i64 t191]] (by first | rfl | exact wanted_on rfl rfl rfl (e41.trans (by first | rfl | (simp [*]; done)))) rfl rfl (by first | (simp only [List.map_toArray, List.map_cons, List.map_nil, Act.eval, Array.getD_eq_getD_getElem?, Option.getD_some, e31]; done) | (simp only [List.map_toArray, List.map_cons, List.map_nil, Act.eval, Array.getD_eq_getD_getElem?, Option.getD_some, e31]; rfl)) ?_
                      with_reducible refine (impl_KindOf.calls k t190 t191 t192 _ A25.out).mono ?_
                      rintro e w47 ⟨rfl, hb⟩
                      refine ⟨_, rfl, ?_⟩
                      have n0_ := Aside0.mk (blk_below (g := gb182) (o := .cells #[.int .i64 t180, .int .i64 t181] 25 (0, 0)) (by (with_reducible repeat (first | refine blk_drewN ?_ _ | refine blk_drew ?_ | refine blk_alloc ?_ _)); exact BK182.out) hb)
                      have n1_ := Aside0.mk (blk_below (g := gb189) (o := .cells #[.int .i64 t186, .int .i64 t187] 25 (0, 0)) (by (with_reducible repeat (first | refine blk_drewN ?_ _ | refine blk_drew ?_ | refine blk_alloc ?_ _)); exact BK189.out) hb)
                      have n2_ := Aside0.mk (below_step (by repeat (first | (with_reducible first | exact HB.out | apply below_alloc | apply pw_below_drewN | apply below_drew1 | refine below_set ?_ GE182.out | refine below_set ?_ GE189.out) | exact HB.out)) hb)
                      have z_HO195 := fun (h0_ : b 3 = true) => (show Kd.R (Kd.int .i64) 3 w47 w.heap.size (fun _ => True) v194 y193 from by first | exact (Kd.R_below (by (with_reducible repeat (first | apply Kd.R_alloc | apply Kd.R_drewN | apply Kd.R_drew)); exact (Q_HO195 h0_)) hb) | exact Kd.R_mono (Kd.R_below (by (with_reducible repeat (first | apply Kd.R_alloc | apply Kd.R_drewN | apply Kd.R_drew)); exact (Q_HO195 h0_)) hb) (fun _ h_ => by first | trivial | exact h_ | exact h_.1))
                      clear BK182
                      clear BK189
                      clear HB
                      have BK182 := n0_
                      have BK189 := n1_
                      have HB := n2_
                      clear n0_ n1_ n2_
                      (try clear hb)
                      (try clear hb2)
                      (try clear hk)
                      (try clear hi)
                      refine hK.out _ _ ⟨v194, adz_v194, v199, adz_v199, m5_, m16_, (by rw [ha.out]; exact putSel_upk 2 hb_ rfl rfl rfl), (by (with_reducible repeat (first | refine blk_drewN ?_ _ | refine blk_drew ?_ | refine blk_alloc ?_ _)); exact BK182.out), (by (with_reducible repeat (first | refine blk_drewN ?_ _ | refine blk_drew ?_ | refine blk_alloc ?_ _)); exact BK189.out), (by repeat (first | (with_reducible first | exact HB.out | apply below_alloc | apply pw_below_drewN | apply below_drew1 | refine below_set ?_ GE182.out | refine below_set ?_ GE189.out) | exact HB.out)), z_HO195, Q_HA_HO195, fun h0_ => absurd ((hoff 14 (by kernel_rfl)).symm.trans h0_) (by decide), fun h0_ => absurd ((hoff 14 (by kernel_rfl)).symm.trans h0_) (by decide), Q_X5_, fun h0_ => absurd ((hoff 16 (by kernel_rfl)).symm.trans h0_) (by decide)⟩
                    refine steps_cons ?_ ?_
                    · rintro b a w' ⟨v194, adz_v194, v199, adz_v199, m5_, m16_, ha, Q_BK182, Q_BK189, Q_HB, Q_HO195, Q_HA_HO195, Q_HO200, Q_HA_HO200, Q_X5_, Q_X16_⟩ hb_ hon hoff
                      refine ⟨_, rfl, fun K hK => ?_⟩
                      replace ha := Aside0.mk ha
                      have BK182 := Aside0.mk Q_BK182
                      have BK189 := Aside0.mk Q_BK189
                      have HB := Aside0.mk Q_HB
                      refine Kd.R_lit_step (Kd.int .i64) _ 3 ?hg (N := 33) ?hd (xs := ([1, 0, 2] : List Int)) (inner := [.int .i64 1, .int .i64 0, .int .i64 2]) (ok := fun _ => True) (okp := fun _ => True) ?hr ?hp (fun _ hk => hk) trivial (Below.refl _ _) (Nat.le_refl _) (by simp) ?_; (case hd => rfl); (case hg => first | rfl | exact wanted_on rfl rfl rfl (e41.trans (by first | rfl | (simp [*]; done)))); (case hr => first | (go_simp; done) | (go_simp; rfl)); (case hp => exact (Reps.one (show Kd.M (Kd.int .i64) _ _ _ 1 [.int .i64 1] from rfl) (Reps.one (show Kd.M (Kd.int .i64) _ _ _ 0 [.int .i64 0] from rfl) (Reps.one (show Kd.M (Kd.int .i64) _ _ _ 2 [.int .i64 2] from rfl) (Reps.none _ _)))))
                      intro v194 w45 ho46 hb hg_ hnew_
                      clear hg_ hnew_
                      (first | rw [← Ny193.out] at ho46 | (simp only [Int.reduceToNat] at ho46; rw [← Ny193.out] at ho46))
                      have n0_ := Aside0.mk (Kd.R_lower ho46 (below_size (by repeat (first | (with_reducible first | exact HB.out | apply below_alloc | apply pw_below_drewN | apply below_drew1 | refine below_set ?_ GE182.out | refine below_set ?_ GE189.out) | exact HB.out))))
                      have n1_ := Aside0.mk (blk_below (g := gb182) (o := .cells #[.int .i64 t180, .int .i64 t181] 25 (0, 0)) (by (with_reducible repeat (first | refine blk_drewN ?_ _ | refine blk_drew ?_ | refine blk_alloc ?_ _)); exact BK182.out) hb)
                      have n2_ := Aside0.mk (blk_below (g := gb189) (o := .cells #[.int .i64 t186, .int .i64 t187] 25 (0, 0)) (by (with_reducible repeat (first | refine blk_drewN ?_ _ | refine blk_drew ?_ | refine blk_alloc ?_ _)); exact BK189.out) hb)
                      have n3_ := Aside0.mk (below_step (by repeat (first | (with_reducible first | exact HB.out | apply below_alloc | apply pw_below_drewN | apply below_drew1 | refine below_set ?_ GE182.out | refine below_set ?_ GE189.out) | exact HB.out)) hb)
                      clear BK182
                      clear BK189
                      clear HB
                      have HO195 := n0_
                      have BK182 := n1_
                      have BK189 := n2_
                      have HB := n3_
                      clear n0_ n1_ n2_ n3_
                      clear hb ho46
                      obtain ⟨Ao47, co47, eo47⟩ := Kd.R_slice HO195.out
                      subst eo47
                      obtain ⟨ado47, fo47, _⟩ := Kd.at_int (Kd.R_reads' HO195.out).2.2 0 (by decide) (by rw [Ny193.out]; simp)
                      cases fo47
                      refine hK.out _ _ ⟨.slice (some ado47) y193.length co47, ado47, v199, adz_v199, m5_, m16_, (by rw [ha.out]; exact putSel_upk 3 hb_ rfl rfl rfl), (by (with_reducible repeat (first | refine blk_drewN ?_ _ | refine blk_drew ?_ | refine blk_alloc ?_ _)); exact BK182.out), (by (with_reducible repeat (first | refine blk_drewN ?_ _ | refine blk_drew ?_ | refine blk_alloc ?_ _)); exact BK189.out), (by repeat (first | (with_reducible first | exact HB.out | apply below_alloc | apply pw_below_drewN | apply below_drew1 | refine below_set ?_ GE182.out | refine below_set ?_ GE189.out) | exact HB.out)), fun _ => (by (with_reducible repeat (first | apply Kd.R_alloc | apply Kd.R_drewN | apply Kd.R_drew)); exact HO195.out), fun _ => ⟨_, rfl⟩, fun h0_ => absurd ((hoff 14 (by kernel_rfl)).symm.trans h0_) (by decide), fun h0_ => absurd ((hoff 14 (by kernel_rfl)).symm.trans h0_) (by decide), fun h0_ => absurd ((hoff 5 (by kernel_rfl)).symm.trans h0_) (by decide), fun h0_ => absurd ((hoff 16 (by kernel_rfl)).symm.trans h0_) (by decide)⟩
                    refine steps_cons ?_ ?_
                    · rintro b a w' ⟨v194, adz_v194, v199, adz_v199, m5_, m16_, ha, Q_BK182, Q_BK189, Q_HB, Q_HO195, Q_HA_HO195, Q_HO200, Q_HA_HO200, Q_X5_, Q_X16_⟩ hb_ hon hoff
                      refine ⟨_, rfl, fun K hK => ?_⟩
                      have e33 : a.tmps[33]? = some (v194) := by rw [ha]; exact putSel_on (e := (3, 33, v194)) 3 rfl rfl (hon 3 (by kernel_rfl)) rfl
                      have e34 : a.tmps[34]? = some (.int .i64 t183) := by rw [ha]; exact (putSel_off rfl).trans rfl
                      replace ha := Aside0.mk ha
                      have BK182 := Aside0.mk Q_BK182
                      have BK189 := Aside0.mk Q_BK189
                      have HB := Aside0.mk Q_HB
                      have HO195 := Aside0.mk (Q_HO195 (hon 3 (by kernel_rfl)))
                      have HA_HO195 := Aside0.mk (Q_HA_HO195 (hon 3 (by kernel_rfl)))
                      obtain ⟨c_, hv_⟩ := HA_HO195.out
                      rw [hv_] at e33
                      refine value_ (w1 := w') (v := .pointer (some (adz_v194.add (t183).toNat))) (by rfl) rfl ?_ ?_
                      · go_simp
                        (try simp only [i64_w])
                        try rfl
                      refine hK.out _ _ ⟨v194, adz_v194, v199, adz_v199, (.pointer (some (adz_v194.add (t183).toNat))), m16_, (by rw [ha.out]; exact putSel_upk 4 hb_ rfl rfl rfl), Q_BK182, Q_BK189, Q_HB, Q_HO195, Q_HA_HO195, fun h0_ => absurd ((hoff 14 (by kernel_rfl)).symm.trans h0_) (by decide), fun h0_ => absurd ((hoff 14 (by kernel_rfl)).symm.trans h0_) (by decide), fun _ => rfl, fun h0_ => absurd ((hoff 16 (by kernel_rfl)).symm.trans h0_) (by decide)⟩
                    refine steps_cons ?_ ?_
                    · rintro b a w' ⟨v194, adz_v194, v199, adz_v199, m5_, m16_, ha, Q_BK182, Q_BK189, Q_HB, Q_HO195, Q_HA_HO195, Q_HO200, Q_HA_HO200, Q_X5_, Q_X16_⟩ hb_ hon hoff
                      refine ⟨_, rfl, fun K hK => ?_⟩
                      have e35 : a.tmps[35]? = some (m5_) := by rw [ha]; exact putSel_on (e := (5, 35, m5_)) 4 rfl rfl (hon 5 (by kernel_rfl)) rfl
                      rw [Q_X5_ (hon 5 (by kernel_rfl))] at e35
                      replace ha := Aside0.mk ha
                      have BK182 := Aside0.mk Q_BK182
                      have BK189 := Aside0.mk Q_BK189
                      have HB := Aside0.mk Q_HB
                      have HO195 := Aside0.mk (Q_HO195 (hon 3 (by kernel_rfl)))
                      have HA_HO195 := Aside0.mk (Q_HA_HO195 (hon 3 (by kernel_rfl)))
                      obtain ⟨c_, hv_⟩ := HA_HO195.out
                      have hF_ := HO195.out
                      rw [hv_] at hF_
                      obtain ⟨ad_, ea_, hx_⟩ := Kd.at_int (Kd.R_reads' hF_).2.2 t183 (of_eq_true pi196) (of_eq_true qi196)
                      cases ea_
                      refine value_ (w1 := w') (v := .int .i64 (rd y193 t183)) (by rfl) rfl ?_ ?_
                      · go_simp
                        (try simp only [i64_w])
                        try rfl
                      refine hK.out _ _ ⟨v194, adz_v194, v199, adz_v199, m5_, m16_, (by rw [ha.out]; exact putSel_upk 5 hb_ rfl rfl rfl), Q_BK182, Q_BK189, Q_HB, Q_HO195, Q_HA_HO195, fun h0_ => absurd ((hoff 14 (by kernel_rfl)).symm.trans h0_) (by decide), fun h0_ => absurd ((hoff 14 (by kernel_rfl)).symm.trans h0_) (by decide), Q_X5_, fun h0_ => absurd ((hoff 16 (by kernel_rfl)).symm.trans h0_) (by decide)⟩
                    refine steps_cons ?_ ?_
                    · rintro b a w' ⟨v194, adz_v194, v199, adz_v199, m5_, m16_, ha, Q_BK182, Q_BK189, Q_HB, Q_HO195, Q_HA_HO195, Q_HO200, Q_HA_HO200, Q_X5_, Q_X16_⟩ hb_ hon hoff
                      refine ⟨_, rfl, fun K hK => ?_⟩
                      have e32 : a.tmps[32]? = some (.int .i64 t192) := by rw [ha]; exact putSel_on (e := (2, 32, .int .i64 t192)) 2 rfl rfl (hon 2 (by kernel_rfl)) rfl
                      have e36 : a.tmps[36]? = some (.int .i64 (rd y193 t183)) := by rw [ha]; exact putSel_on (e := (6, 36, .int .i64 (rd y193 t183))) 5 rfl rfl (hon 6 (by kernel_rfl)) rfl
                      replace ha := Aside0.mk ha
                      have BK182 := Aside0.mk Q_BK182
                      have BK189 := Aside0.mk Q_BK189
                      have HB := Aside0.mk Q_HB
                      have HO195 := Aside0.mk (Q_HO195 (hon 3 (by kernel_rfl)))
                      have HA_HO195 := Aside0.mk (Q_HA_HO195 (hon 3 (by kernel_rfl)))
                      refine value_ (w1 := w') (v := .bool (t192 == (rd y193 t183))) (by rfl) rfl ?_ ?_
                      · go_simp
                        (try simp only [i64_w])
                        try rfl
                      refine hK.out _ _ ⟨v194, adz_v194, v199, adz_v199, m5_, m16_, (by rw [ha.out]; exact putSel_upk 6 hb_ rfl rfl rfl), Q_BK182, Q_BK189, Q_HB, Q_HO195, Q_HA_HO195, fun h0_ => absurd ((hoff 14 (by kernel_rfl)).symm.trans h0_) (by decide), fun h0_ => absurd ((hoff 14 (by kernel_rfl)).symm.trans h0_) (by decide), Q_X5_, fun h0_ => absurd ((hoff 16 (by kernel_rfl)).symm.trans h0_) (by decide)⟩
                    refine steps_cons ?_ ?_
                    · rintro b a w' ⟨v194, adz_v194, v199, adz_v199, m5_, m16_, ha, Q_BK182, Q_BK189, Q_HB, Q_HO195, Q_HA_HO195, Q_HO200, Q_HA_HO200, Q_X5_, Q_X16_⟩ hb_ hon hoff
                      refine ⟨_, rfl, fun K hK => ?_⟩
                      have e37 : a.tmps[37]? = some (.bool (t192 == (rd y193 t183))) := by rw [ha]; exact putSel_on (e := (7, 37, .bool (t192 == (rd y193 t183)))) 6 rfl rfl (hon 7 (by kernel_rfl)) rfl
                      replace ha := Aside0.mk ha
                      have BK182 := Aside0.mk Q_BK182
                      have BK189 := Aside0.mk Q_BK189
                      have HB := Aside0.mk Q_HB
                      have HO195 := Aside0.mk (Q_HO195 (hon 3 (by kernel_rfl)))
                      have HA_HO195 := Aside0.mk (Q_HA_HO195 (hon 3 (by kernel_rfl)))
                      refine value_ (w1 := w') (v := .bool (t192 == (rd y193 t183))) (by rfl) rfl ?_ ?_
                      · go_simp
                        (try simp only [i64_w])
                        try rfl
                      refine hK.out _ _ ⟨v194, adz_v194, v199, adz_v199, m5_, m16_, (by rw [ha.out]; exact putSel_upk 7 hb_ rfl rfl rfl), Q_BK182, Q_BK189, Q_HB, Q_HO195, Q_HA_HO195, fun h0_ => absurd ((hoff 14 (by kernel_rfl)).symm.trans h0_) (by decide), fun h0_ => absurd ((hoff 14 (by kernel_rfl)).symm.trans h0_) (by decide), Q_X5_, fun h0_ => absurd ((hoff 16 (by kernel_rfl)).symm.trans h0_) (by decide)⟩
                    refine steps_cons ?_ ?_
                    · rintro b a w' ⟨v194, adz_v194, v199, adz_v199, m5_, m16_, ha, Q_BK182, Q_BK189, Q_HB, Q_HO195, Q_HA_HO195, Q_HO200, Q_HA_HO200, Q_X5_, Q_X16_⟩ hb_ hon hoff
                      refine ⟨_, rfl, fun K hK => ?_⟩
                      have e6 : a.tmps[6]? = some (.bool true) := by rw [ha]; exact (putSel_off rfl).trans rfl
                      have e38 : a.tmps[38]? = some (.bool (t192 == (rd y193 t183))) := by rw [ha]; exact putSel_on (e := (8, 38, .bool (t192 == (rd y193 t183)))) 7 rfl rfl (hon 8 (by kernel_rfl)) rfl
                      replace ha := Aside0.mk ha
                      have BK182 := Aside0.mk Q_BK182
                      have BK189 := Aside0.mk Q_BK189
                      have HB := Aside0.mk Q_HB
                      have HO195 := Aside0.mk (Q_HO195 (hon 3 (by kernel_rfl)))
                      have HA_HO195 := Aside0.mk (Q_HA_HO195 (hon 3 (by kernel_rfl)))
                      refine value_ (w1 := w') (v := .bool true) (wanted_on rfl rfl rfl (e38.trans (by first | rfl | (simp [*]; done)))) rfl ?_ ?_
                      · go_simp
                        (try simp only [i64_w])
                        try rfl
                      refine hK.out _ _ ⟨v194, adz_v194, v199, adz_v199, m5_, m16_, (by rw [ha.out]; exact putSel_upk 8 hb_ rfl rfl rfl), Q_BK182, Q_BK189, Q_HB, Q_HO195, Q_HA_HO195, fun h0_ => absurd ((hoff 14 (by kernel_rfl)).symm.trans h0_) (by decide), fun h0_ => absurd ((hoff 14 (by kernel_rfl)).symm.trans h0_) (by decide), Q_X5_, fun h0_ => absurd ((hoff 16 (by kernel_rfl)).symm.trans h0_) (by decide)⟩
                    refine steps_cons ?_ ?_
                    · rintro b a w' ⟨v194, adz_v194, v199, adz_v199, m5_, m16_, ha, Q_BK182, Q_BK189, Q_HB, Q_HO195, Q_HA_HO195, Q_HO200, Q_HA_HO200, Q_X5_, Q_X16_⟩ hb_ hon hoff
                      refine ⟨_, rfl, fun K hK => ?_⟩
                      have e39 : a.tmps[39]? = some (.bool true) := by rw [ha]; exact putSel_on (e := (9, 39, .bool true)) 8 rfl rfl (hon 9 (by kernel_rfl)) rfl
                      have e38 : a.tmps[38]? = some (.bool (t192 == (rd y193 t183))) := by rw [ha]; exact putSel_on (e := (8, 38, .bool (t192 == (rd y193 t183)))) 7 rfl rfl (hon 8 (by kernel_rfl)) rfl
                      replace ha := Aside0.mk ha
                      have BK182 := Aside0.mk Q_BK182
                      have BK189 := Aside0.mk Q_BK189
                      have HB := Aside0.mk Q_HB
                      have HO195 := Aside0.mk (Q_HO195 (hon 3 (by kernel_rfl)))
                      have HA_HO195 := Aside0.mk (Q_HA_HO195 (hon 3 (by kernel_rfl)))
                      refine value_ (w1 := w') (v := .bool (!true)) (wanted_on rfl rfl rfl (e38.trans (by first | rfl | (simp [*]; done)))) rfl ?_ ?_
                      · go_simp
                        (try simp only [i64_w])
                        try rfl
                      refine hK.out _ _ ⟨v194, adz_v194, v199, adz_v199, m5_, m16_, (by rw [ha.out]; exact putSel_upk 9 hb_ rfl rfl rfl), Q_BK182, Q_BK189, Q_HB, Q_HO195, Q_HA_HO195, fun h0_ => absurd ((hoff 14 (by kernel_rfl)).symm.trans h0_) (by decide), fun h0_ => absurd ((hoff 14 (by kernel_rfl)).symm.trans h0_) (by decide), Q_X5_, fun h0_ => absurd ((hoff 16 (by kernel_rfl)).symm.trans h0_) (by decide)⟩
                    refine steps_cons ?_ ?_
                    · rintro b a w' ⟨v194, adz_v194, v199, adz_v199, m5_, m16_, ha, Q_BK182, Q_BK189, Q_HB, Q_HO195, Q_HA_HO195, Q_HO200, Q_HA_HO200, Q_X5_, Q_X16_⟩ hb_ hon hoff
                      refine ⟨_, rfl, fun K hK => ?_⟩
                      have e40 : a.tmps[40]? = some (.bool (!true)) := by rw [ha]; exact putSel_on (e := (10, 40, .bool (!true))) 9 rfl rfl (hon 10 (by kernel_rfl)) rfl
                      have e38 : a.tmps[38]? = some (.bool (t192 == (rd y193 t183))) := by rw [ha]; exact putSel_on (e := (8, 38, .bool (t192 == (rd y193 t183)))) 7 rfl rfl (hon 8 (by kernel_rfl)) rfl
                      replace ha := Aside0.mk ha
                      have BK182 := Aside0.mk Q_BK182
                      have BK189 := Aside0.mk Q_BK189
                      have HB := Aside0.mk Q_HB
                      have HO195 := Aside0.mk (Q_HO195 (hon 3 (by kernel_rfl)))
                      have HA_HO195 := Aside0.mk (Q_HA_HO195 (hon 3 (by kernel_rfl)))
                      refine value_ (w1 := w') (v := .bool (!true)) (wanted_on rfl rfl rfl (e38.trans (by first | rfl | (simp [*]; done)))) rfl ?_ ?_
                      · go_simp
                        (try simp only [i64_w])
                        try rfl
                      refine hK.out _ _ ⟨v194, adz_v194, v199, adz_v199, m5_, m16_, (by rw [ha.out]; exact putSel_upk 10 hb_ rfl rfl rfl), Q_BK182, Q_BK189, Q_HB, Q_HO195, Q_HA_HO195, fun h0_ => absurd ((hoff 14 (by kernel_rfl)).symm.trans h0_) (by decide), fun h0_ => absurd ((hoff 14 (by kernel_rfl)).symm.trans h0_) (by decide), Q_X5_, fun h0_ => absurd ((hoff 16 (by kernel_rfl)).symm.trans h0_) (by decide)⟩
                    refine steps_cons ?_ ?_
                    · rintro b a w' ⟨v194, adz_v194, v199, adz_v199, m5_, m16_, ha, Q_BK182, Q_BK189, Q_HB, Q_HO195, Q_HA_HO195, Q_HO200, Q_HA_HO200, Q_X5_, Q_X16_⟩ hb_ hon hoff
                      refine ⟨_, rfl, fun K hK => ?_⟩
                      have e5 : a.tmps[5]? = some (.pointer (some ⟨gb189, 0, none⟩)) := by rw [ha]; exact (putSel_off rfl).trans rfl
                      have e41 : a.tmps[41]? = some (.bool (!true)) := by rw [ha]; exact putSel_on (e := (11, 41, .bool (!true))) 10 rfl rfl (hon 11 (by kernel_rfl)) rfl
                      replace ha := Aside0.mk ha
                      have BK182 := Aside0.mk Q_BK182
                      have BK189 := Aside0.mk Q_BK189
                      have HB := Aside0.mk Q_HB
                      have HO195 := Aside0.mk (Q_HO195 (hon 3 (by kernel_rfl)))
                      have HA_HO195 := Aside0.mk (Q_HA_HO195 (hon 3 (by kernel_rfl)))
                      have hc0_ : w'.cell? ⟨gb189, 0, none⟩ = some (.int .i64 t186) := (blk_cell BK189.out 0).trans rfl
                      have hc1_ : w'.cell? ⟨gb189, 1, none⟩ = some (.int .i64 t187) := (blk_cell BK189.out 1).trans rfl
                      refine value_ (w1 := w') (v := .agg #[.int .i64 t186, .int .i64 t187]) (wanted_on rfl rfl rfl (e41.trans (by first | rfl | (simp [*]; done)))) rfl ?_ ?_
                      · go_simp
                        (try simp only [i64_w])
                        try rfl
                      refine hK.out _ _ ⟨v194, adz_v194, v199, adz_v199, m5_, m16_, (by rw [ha.out]; exact putSel_upk 11 hb_ rfl rfl rfl), Q_BK182, Q_BK189, Q_HB, Q_HO195, Q_HA_HO195, Q_HO200, Q_HA_HO200, Q_X5_, Q_X16_⟩
                    refine steps_cons ?_ ?_
                    · rintro b a w' ⟨v194, adz_v194, v199, adz_v199, m5_, m16_, ha, Q_BK182, Q_BK189, Q_HB, Q_HO195, Q_HA_HO195, Q_HO200, Q_HA_HO200, Q_X5_, Q_X16_⟩ hb_ hon hoff
                      refine ⟨_, rfl, fun K hK => ?_⟩
                      have e42 : a.tmps[42]? = some (.agg #[.int .i64 t186, .int .i64 t187]) := by rw [ha]; exact putSel_on (e := (12, 42, .agg #[.int .i64 t186, .int .i64 t187])) 11 rfl rfl (hon 12 (by kernel_rfl)) rfl
                      have e41 : a.tmps[41]? = some (.bool (!true)) := by rw [ha]; exact putSel_on (e := (11, 41, .bool (!true))) 10 rfl rfl (hon 11 (by kernel_rfl)) rfl
                      replace ha := Aside0.mk ha
                      have BK182 := Aside0.mk Q_BK182
                      have BK189 := Aside0.mk Q_BK189
                      have HB := Aside0.mk Q_HB
                      have HO195 := Aside0.mk (Q_HO195 (hon 3 (by kernel_rfl)))
                      have HA_HO195 := Aside0.mk (Q_HA_HO195 (hon 3 (by kernel_rfl)))
                      obtain ⟨co51, eo51⟩ := HA_HO195.out
                      clear HA_HO195
                      subst eo51
                      refine goes_ Try.func29 (by kernel_rfl) rfl #[.agg #[.int .i64 t186, .int .i64 t187]] (by first | rfl | exact wanted_on rfl rfl rfl (e41.trans (by first | rfl | (simp [*]; done)))) rfl rfl (by first | (simp only [List.map_toArray, List.map_cons, List.map_nil, Act.eval, Array.getD_eq_getD_getElem?, Option.getD_some, e42, e41]; done) | (simp only [List.map_toArray, List.map_cons, List.map_nil, Act.eval, Array.getD_eq_getD_getElem?, Option.getD_some, e42, e41]; rfl)) ?_
                      with_reducible refine (impl_KindOf.calls k t186 t187 t197 _ A30.out).mono ?_
                      rintro e w52 ⟨rfl, hb⟩
                      refine ⟨_, rfl, ?_⟩
                      have n0_ := Aside0.mk (Kd.R_below (by (with_reducible repeat (first | apply Kd.R_alloc | apply Kd.R_drewN | apply Kd.R_drew)); exact HO195.out) hb)
                      have n1_ := Aside0.mk (blk_below (g := gb182) (o := .cells #[.int .i64 t180, .int .i64 t181] 25 (0, 0)) (by (with_reducible repeat (first | refine blk_drewN ?_ _ | refine blk_drew ?_ | refine blk_alloc ?_ _)); exact BK182.out) hb)
                      have n2_ := Aside0.mk (blk_below (g := gb189) (o := .cells #[.int .i64 t186, .int .i64 t187] 25 (0, 0)) (by (with_reducible repeat (first | refine blk_drewN ?_ _ | refine blk_drew ?_ | refine blk_alloc ?_ _)); exact BK189.out) hb)
                      have n3_ := Aside0.mk (below_step (by repeat (first | (with_reducible first | exact HB.out | apply below_alloc | apply pw_below_drewN | apply below_drew1 | refine below_set ?_ GE182.out | refine below_set ?_ GE189.out) | exact HB.out)) hb)
                      have z_HO200 := fun (h0_ : b 14 = true) => (show Kd.R (Kd.int .i64) 3 w52 w.heap.size (fun _ => True) v199 y198 from by first | exact (Kd.R_below (by (with_reducible repeat (first | apply Kd.R_alloc | apply Kd.R_drewN | apply Kd.R_drew)); exact (Q_HO200 h0_)) hb) | exact Kd.R_mono (Kd.R_below (by (with_reducible repeat (first | apply Kd.R_alloc | apply Kd.R_drewN | apply Kd.R_drew)); exact (Q_HO200 h0_)) hb) (fun _ h_ => by first | trivial | exact h_ | exact h_.1))
                      clear HO195
                      clear BK182
                      clear BK189
                      clear HB
                      have HO195 := n0_
                      have BK182 := n1_
                      have BK189 := n2_
                      have HB := n3_
                      clear n0_ n1_ n2_ n3_
                      (try clear hb)
                      (try clear hb2)
                      (try clear hk)
                      (try clear hi)
                      refine hK.out _ _ ⟨.slice (some adz_v194) y193.length co51, adz_v194, v199, adz_v199, m5_, m16_, (by rw [ha.out]; exact putSel_upk 12 hb_ rfl rfl rfl), (by (with_reducible repeat (first | refine blk_drewN ?_ _ | refine blk_drew ?_ | refine blk_alloc ?_ _)); exact BK182.out), (by (with_reducible repeat (first | refine blk_drewN ?_ _ | refine blk_drew ?_ | refine blk_alloc ?_ _)); exact BK189.out), (by repeat (first | (with_reducible first | exact HB.out | apply below_alloc | apply pw_below_drewN | apply below_drew1 | refine below_set ?_ GE182.out | refine below_set ?_ GE189.out) | exact HB.out)), fun _ => (by (with_reducible repeat (first | apply Kd.R_alloc | apply Kd.R_drewN | apply Kd.R_drew)); exact HO195.out), fun _ => ⟨_, rfl⟩, z_HO200, Q_HA_HO200, Q_X5_, Q_X16_⟩
                    refine steps_cons ?_ ?_
                    · rintro b a w' ⟨v194, adz_v194, v199, adz_v199, m5_, m16_, ha, Q_BK182, Q_BK189, Q_HB, Q_HO195, Q_HA_HO195, Q_HO200, Q_HA_HO200, Q_X5_, Q_X16_⟩ hb_ hon hoff
                      refine ⟨_, rfl, fun K hK => ?_⟩
                      have e41 : a.tmps[41]? = some (.bool (!true)) := by rw [ha]; exact putSel_on (e := (11, 41, .bool (!true))) 10 rfl rfl (hon 11 (by kernel_rfl)) rfl
                      replace ha := Aside0.mk ha
                      have BK182 := Aside0.mk Q_BK182
                      have BK189 := Aside0.mk Q_BK189
                      have HB := Aside0.mk Q_HB
                      have HO195 := Aside0.mk (Q_HO195 (hon 3 (by kernel_rfl)))
                      have HA_HO195 := Aside0.mk (Q_HA_HO195 (hon 3 (by kernel_rfl)))
                      obtain ⟨co51, eo51⟩ := HA_HO195.out
                      clear HA_HO195
                      subst eo51
                      refine Kd.R_lit_step (Kd.int .i64) _ 3 ?hg (N := 44) ?hd (xs := ([2, 1, 0] : List Int)) (inner := [.int .i64 2, .int .i64 1, .int .i64 0]) (ok := fun _ => True) (okp := fun _ => True) ?hr ?hp (fun _ hk => hk) trivial (Below.refl _ _) (Nat.le_refl _) (by simp) ?_; (case hd => rfl); (case hg => first | rfl | exact wanted_on rfl rfl rfl (e41.trans (by first | rfl | (simp [*]; done)))); (case hr => first | (go_simp; done) | (go_simp; rfl)); (case hp => exact (Reps.one (show Kd.M (Kd.int .i64) _ _ _ 2 [.int .i64 2] from rfl) (Reps.one (show Kd.M (Kd.int .i64) _ _ _ 1 [.int .i64 1] from rfl) (Reps.one (show Kd.M (Kd.int .i64) _ _ _ 0 [.int .i64 0] from rfl) (Reps.none _ _)))))
                      intro v199 w52 ho53 hb hg_ hnew_
                      clear hg_ hnew_
                      (first | rw [← Ny198.out] at ho53 | (simp only [Int.reduceToNat] at ho53; rw [← Ny198.out] at ho53))
                      have n0_ := Aside0.mk (Kd.R_elder' (by (with_reducible repeat (first | apply Kd.R_alloc | apply Kd.R_drewN | apply Kd.R_drew)); exact HO195.out) (Kd.R_base ho53) hb)
                      have n1_ := Aside0.mk (Kd.R_lower (Kd.R_new' ho53 (Kd.R_lt (by (with_reducible repeat (first | apply Kd.R_alloc | apply Kd.R_drewN | apply Kd.R_drew)); exact HO195.out))) (below_size (by repeat (first | (with_reducible first | exact HB.out | apply below_alloc | apply pw_below_drewN | apply below_drew1 | refine below_set ?_ GE182.out | refine below_set ?_ GE189.out) | exact HB.out))))
                      have n2_ := Aside0.mk (blk_below (g := gb182) (o := .cells #[.int .i64 t180, .int .i64 t181] 25 (0, 0)) (by (with_reducible repeat (first | refine blk_drewN ?_ _ | refine blk_drew ?_ | refine blk_alloc ?_ _)); exact BK182.out) hb)
                      have n3_ := Aside0.mk (blk_below (g := gb189) (o := .cells #[.int .i64 t186, .int .i64 t187] 25 (0, 0)) (by (with_reducible repeat (first | refine blk_drewN ?_ _ | refine blk_drew ?_ | refine blk_alloc ?_ _)); exact BK189.out) hb)
                      have n4_ := Aside0.mk (below_step (by repeat (first | (with_reducible first | exact HB.out | apply below_alloc | apply pw_below_drewN | apply below_drew1 | refine below_set ?_ GE182.out | refine below_set ?_ GE189.out) | exact HB.out)) hb)
                      clear HO195
                      clear BK182
                      clear BK189
                      clear HB
                      have HO195 := n0_
                      have HO200 := n1_
                      have BK182 := n2_
                      have BK189 := n3_
                      have HB := n4_
                      clear n0_ n1_ n2_ n3_ n4_
                      clear hb ho53
                      obtain ⟨Ao54, co54, eo54⟩ := Kd.R_slice HO200.out
                      subst eo54
                      obtain ⟨ado54, fo54, _⟩ := Kd.at_int (Kd.R_reads' HO200.out).2.2 0 (by decide) (by rw [Ny198.out]; simp)
                      cases fo54
                      refine hK.out _ _ ⟨.slice (some adz_v194) y193.length co51, adz_v194, .slice (some ado54) y198.length co54, ado54, m5_, m16_, (by rw [ha.out]; exact putSel_upk 13 hb_ rfl rfl rfl), (by (with_reducible repeat (first | refine blk_drewN ?_ _ | refine blk_drew ?_ | refine blk_alloc ?_ _)); exact BK182.out), (by (with_reducible repeat (first | refine blk_drewN ?_ _ | refine blk_drew ?_ | refine blk_alloc ?_ _)); exact BK189.out), (by repeat (first | (with_reducible first | exact HB.out | apply below_alloc | apply pw_below_drewN | apply below_drew1 | refine below_set ?_ GE182.out | refine below_set ?_ GE189.out) | exact HB.out)), fun _ => (by (with_reducible repeat (first | apply Kd.R_alloc | apply Kd.R_drewN | apply Kd.R_drew)); exact Kd.R_mono HO195.out (fun _ hk => by first | exact hk.2 | trivial)), fun _ => ⟨_, rfl⟩, fun _ => (by (with_reducible repeat (first | apply Kd.R_alloc | apply Kd.R_drewN | apply Kd.R_drew)); exact Kd.R_mono HO200.out (fun _ hk => by first | exact hk.2 | trivial)), fun _ => ⟨_, rfl⟩, Q_X5_, fun h0_ => absurd ((hoff 16 (by kernel_rfl)).symm.trans h0_) (by decide)⟩
                    refine steps_cons ?_ ?_
                    · rintro b a w' ⟨v194, adz_v194, v199, adz_v199, m5_, m16_, ha, Q_BK182, Q_BK189, Q_HB, Q_HO195, Q_HA_HO195, Q_HO200, Q_HA_HO200, Q_X5_, Q_X16_⟩ hb_ hon hoff
                      refine ⟨_, rfl, fun K hK => ?_⟩
                      have e4 : a.tmps[4]? = some (.int .i64 t183) := by rw [ha]; exact (putSel_off rfl).trans rfl
                      have e41 : a.tmps[41]? = some (.bool (!true)) := by rw [ha]; exact putSel_on (e := (11, 41, .bool (!true))) 10 rfl rfl (hon 11 (by kernel_rfl)) rfl
                      replace ha := Aside0.mk ha
                      have BK182 := Aside0.mk Q_BK182
                      have BK189 := Aside0.mk Q_BK189
                      have HB := Aside0.mk Q_HB
                      have HO195 := Aside0.mk (Q_HO195 (hon 3 (by kernel_rfl)))
                      have HA_HO195 := Aside0.mk (Q_HA_HO195 (hon 3 (by kernel_rfl)))
                      refine value_ (w1 := w') (v := .int .i64 t183) (wanted_on rfl rfl rfl (e41.trans (by first | rfl | (simp [*]; done)))) rfl ?_ ?_
                      · go_simp
                        (try simp only [i64_w])
                        try rfl
                      refine hK.out _ _ ⟨v194, adz_v194, v199, adz_v199, m5_, m16_, (by rw [ha.out]; exact putSel_upk 14 hb_ rfl rfl rfl), Q_BK182, Q_BK189, Q_HB, Q_HO195, Q_HA_HO195, Q_HO200, Q_HA_HO200, Q_X5_, fun h0_ => absurd ((hoff 16 (by kernel_rfl)).symm.trans h0_) (by decide)⟩
                    refine steps_cons ?_ ?_
                    · rintro b a w' ⟨v194, adz_v194, v199, adz_v199, m5_, m16_, ha, Q_BK182, Q_BK189, Q_HB, Q_HO195, Q_HA_HO195, Q_HO200, Q_HA_HO200, Q_X5_, Q_X16_⟩ hb_ hon hoff
                      refine ⟨_, rfl, fun K hK => ?_⟩
                      have e44 : a.tmps[44]? = some (v199) := by rw [ha]; exact putSel_on (e := (14, 44, v199)) 13 rfl rfl (hon 14 (by kernel_rfl)) rfl
                      have e45 : a.tmps[45]? = some (.int .i64 t183) := by rw [ha]; exact putSel_on (e := (15, 45, .int .i64 t183)) 14 rfl rfl (hon 15 (by kernel_rfl)) rfl
                      have e41 : a.tmps[41]? = some (.bool (!true)) := by rw [ha]; exact putSel_on (e := (11, 41, .bool (!true))) 10 rfl rfl (hon 11 (by kernel_rfl)) rfl
                      replace ha := Aside0.mk ha
                      have BK182 := Aside0.mk Q_BK182
                      have BK189 := Aside0.mk Q_BK189
                      have HB := Aside0.mk Q_HB
                      have HO195 := Aside0.mk (Q_HO195 (hon 3 (by kernel_rfl)))
                      have HA_HO195 := Aside0.mk (Q_HA_HO195 (hon 3 (by kernel_rfl)))
                      have HO200 := Aside0.mk (Q_HO200 (hon 14 (by kernel_rfl)))
                      have HA_HO200 := Aside0.mk (Q_HA_HO200 (hon 14 (by kernel_rfl)))
                      obtain ⟨c_, hv_⟩ := HA_HO200.out
                      rw [hv_] at e44
                      refine value_ (w1 := w') (v := .pointer (some (adz_v199.add (t183).toNat))) (wanted_on rfl rfl rfl (e41.trans (by first | rfl | (simp [*]; done)))) rfl ?_ ?_
                      · go_simp
                        (try simp only [i64_w])
                        try rfl
                      refine hK.out _ _ ⟨v194, adz_v194, v199, adz_v199, m5_, (.pointer (some (adz_v199.add (t183).toNat))), (by rw [ha.out]; exact putSel_upk 15 hb_ rfl rfl rfl), Q_BK182, Q_BK189, Q_HB, Q_HO195, Q_HA_HO195, Q_HO200, Q_HA_HO200, Q_X5_, fun _ => rfl⟩
                    refine steps_cons ?_ ?_
                    · rintro b a w' ⟨v194, adz_v194, v199, adz_v199, m5_, m16_, ha, Q_BK182, Q_BK189, Q_HB, Q_HO195, Q_HA_HO195, Q_HO200, Q_HA_HO200, Q_X5_, Q_X16_⟩ hb_ hon hoff
                      refine ⟨_, rfl, fun K hK => ?_⟩
                      have e46 : a.tmps[46]? = some (m16_) := by rw [ha]; exact putSel_on (e := (16, 46, m16_)) 15 rfl rfl (hon 16 (by kernel_rfl)) rfl
                      rw [Q_X16_ (hon 16 (by kernel_rfl))] at e46
                      have e41 : a.tmps[41]? = some (.bool (!true)) := by rw [ha]; exact putSel_on (e := (11, 41, .bool (!true))) 10 rfl rfl (hon 11 (by kernel_rfl)) rfl
                      replace ha := Aside0.mk ha
                      have BK182 := Aside0.mk Q_BK182
                      have BK189 := Aside0.mk Q_BK189
                      have HB := Aside0.mk Q_HB
                      have HO195 := Aside0.mk (Q_HO195 (hon 3 (by kernel_rfl)))
                      have HA_HO195 := Aside0.mk (Q_HA_HO195 (hon 3 (by kernel_rfl)))
                      have HO200 := Aside0.mk (Q_HO200 (hon 14 (by kernel_rfl)))
                      have HA_HO200 := Aside0.mk (Q_HA_HO200 (hon 14 (by kernel_rfl)))
                      obtain ⟨c_, hv_⟩ := HA_HO200.out
                      have hF_ := HO200.out
                      rw [hv_] at hF_
                      obtain ⟨ad_, ea_, hx_⟩ := Kd.at_int (Kd.R_reads' hF_).2.2 t183 (of_eq_true pi201) (of_eq_true qi201)
                      cases ea_
                      refine value_ (w1 := w') (v := .int .i64 (rd y198 t183)) (wanted_on rfl rfl rfl (e41.trans (by first | rfl | (simp [*]; done)))) rfl ?_ ?_
                      · go_simp
                        (try simp only [i64_w])
                        try rfl
                      refine hK.out _ _ ⟨v194, adz_v194, v199, adz_v199, m5_, m16_, (by rw [ha.out]; exact putSel_upk 16 hb_ rfl rfl rfl), Q_BK182, Q_BK189, Q_HB, Q_HO195, Q_HA_HO195, Q_HO200, Q_HA_HO200, Q_X5_, Q_X16_⟩
                    refine steps_cons ?_ ?_
                    · rintro b a w' ⟨v194, adz_v194, v199, adz_v199, m5_, m16_, ha, Q_BK182, Q_BK189, Q_HB, Q_HO195, Q_HA_HO195, Q_HO200, Q_HA_HO200, Q_X5_, Q_X16_⟩ hb_ hon hoff
                      refine ⟨_, rfl, fun K hK => ?_⟩
                      have e43 : a.tmps[43]? = some (.int .i64 t197) := by rw [ha]; exact putSel_on (e := (13, 43, .int .i64 t197)) 12 rfl rfl (hon 13 (by kernel_rfl)) rfl
                      have e47 : a.tmps[47]? = some (.int .i64 (rd y198 t183)) := by rw [ha]; exact putSel_on (e := (17, 47, .int .i64 (rd y198 t183))) 16 rfl rfl (hon 17 (by kernel_rfl)) rfl
                      have e41 : a.tmps[41]? = some (.bool (!true)) := by rw [ha]; exact putSel_on (e := (11, 41, .bool (!true))) 10 rfl rfl (hon 11 (by kernel_rfl)) rfl
                      replace ha := Aside0.mk ha
                      have BK182 := Aside0.mk Q_BK182
                      have BK189 := Aside0.mk Q_BK189
                      have HB := Aside0.mk Q_HB
                      have HO195 := Aside0.mk (Q_HO195 (hon 3 (by kernel_rfl)))
                      have HA_HO195 := Aside0.mk (Q_HA_HO195 (hon 3 (by kernel_rfl)))
                      have HO200 := Aside0.mk (Q_HO200 (hon 14 (by kernel_rfl)))
                      have HA_HO200 := Aside0.mk (Q_HA_HO200 (hon 14 (by kernel_rfl)))
                      refine value_ (w1 := w') (v := .bool (t197 == (rd y198 t183))) (wanted_on rfl rfl rfl (e41.trans (by first | rfl | (simp [*]; done)))) rfl ?_ ?_
                      · go_simp
                        (try simp only [i64_w])
                        try rfl
                      refine hK.out _ _ ⟨v194, adz_v194, v199, adz_v199, m5_, m16_, (by rw [ha.out]; exact putSel_upk 17 hb_ rfl rfl rfl), Q_BK182, Q_BK189, Q_HB, Q_HO195, Q_HA_HO195, Q_HO200, Q_HA_HO200, Q_X5_, Q_X16_⟩
                    refine steps_cons ?_ ?_
                    · rintro b a w' ⟨v194, adz_v194, v199, adz_v199, m5_, m16_, ha, Q_BK182, Q_BK189, Q_HB, Q_HO195, Q_HA_HO195, Q_HO200, Q_HA_HO200, Q_X5_, Q_X16_⟩ hb_ hon hoff
                      refine ⟨_, rfl, fun K hK => ?_⟩
                      have e41 : a.tmps[41]? = some (.bool (!true)) := by rw [ha]; exact putSel_on (e := (11, 41, .bool (!true))) 10 rfl rfl (hon 11 (by kernel_rfl)) rfl
                      have e48 : a.tmps[48]? = some (.bool (t197 == (rd y198 t183))) := by rw [ha]; exact putSel_on (e := (18, 48, .bool (t197 == (rd y198 t183)))) 17 rfl rfl (hon 18 (by kernel_rfl)) rfl
                      have e38 : a.tmps[38]? = some (.bool (t192 == (rd y193 t183))) := by rw [ha]; exact putSel_on (e := (8, 38, .bool (t192 == (rd y193 t183)))) 7 rfl rfl (hon 8 (by kernel_rfl)) rfl
                      replace ha := Aside0.mk ha
                      have BK182 := Aside0.mk Q_BK182
                      have BK189 := Aside0.mk Q_BK189
                      have HB := Aside0.mk Q_HB
                      have HO195 := Aside0.mk (Q_HO195 (hon 3 (by kernel_rfl)))
                      have HA_HO195 := Aside0.mk (Q_HA_HO195 (hon 3 (by kernel_rfl)))
                      have HO200 := Aside0.mk (Q_HO200 (hon 14 (by kernel_rfl)))
                      have HA_HO200 := Aside0.mk (Q_HA_HO200 (hon 14 (by kernel_rfl)))
                      refine value_ (w1 := w') (v := .bool (t197 == (rd y198 t183))) (wanted_on rfl rfl rfl (e38.trans (by first | rfl | (simp [*]; done)))) rfl ?_ ?_
                      · go_simp
                        (try simp only [i64_w])
                        try rfl
                      refine hK.out _ _ ⟨v194, adz_v194, v199, adz_v199, m5_, m16_, (by rw [ha.out]; exact putSel_upk 18 hb_ rfl rfl rfl), Q_BK182, Q_BK189, Q_HB, Q_HO195, Q_HA_HO195, Q_HO200, Q_HA_HO200, Q_X5_, Q_X16_⟩
                    refine steps_cons ?_ ?_
                    · rintro b a w' ⟨v194, adz_v194, v199, adz_v199, m5_, m16_, ha, Q_BK182, Q_BK189, Q_HB, Q_HO195, Q_HA_HO195, Q_HO200, Q_HA_HO200, Q_X5_, Q_X16_⟩ hb_ hon hoff
                      refine ⟨_, rfl, fun K hK => ?_⟩
                      have e38 : a.tmps[38]? = some (.bool (t192 == (rd y193 t183))) := by rw [ha]; exact putSel_on (e := (8, 38, .bool (t192 == (rd y193 t183)))) 7 rfl rfl (hon 8 (by kernel_rfl)) rfl
                      have e49 : a.tmps[49]? = some (.bool (t197 == (rd y198 t183))) := by rw [ha]; exact putSel_on (e := (19, 49, .bool (t197 == (rd y198 t183)))) 18 rfl rfl (hon 19 (by kernel_rfl)) rfl
                      replace ha := Aside0.mk ha
                      have BK182 := Aside0.mk Q_BK182
                      have BK189 := Aside0.mk Q_BK189
                      have HB := Aside0.mk Q_HB
                      have HO195 := Aside0.mk (Q_HO195 (hon 3 (by kernel_rfl)))
                      have HA_HO195 := Aside0.mk (Q_HA_HO195 (hon 3 (by kernel_rfl)))
                      have HO200 := Aside0.mk (Q_HO200 (hon 14 (by kernel_rfl)))
                      have HA_HO200 := Aside0.mk (Q_HA_HO200 (hon 14 (by kernel_rfl)))
                      refine value_ (w1 := w') (v := .bool (t197 == (rd y198 t183))) (by rfl) rfl ?_ ?_
                      · go_simp
                        (try simp only [i64_w])
                        try rfl
                      refine hK.out _ _ ⟨v194, adz_v194, v199, adz_v199, m5_, m16_, (by rw [ha.out]; exact putSel_upk 19 hb_ rfl rfl rfl), Q_BK182, Q_BK189, Q_HB, Q_HO195, Q_HA_HO195, Q_HO200, Q_HA_HO200, Q_X5_, Q_X16_⟩
                    refine steps_cons ?_ ?_
                    · rintro b a w' ⟨v194, adz_v194, v199, adz_v199, m5_, m16_, ha, Q_BK182, Q_BK189, Q_HB, Q_HO195, Q_HA_HO195, Q_HO200, Q_HA_HO200, Q_X5_, Q_X16_⟩ hb_ hon hoff
                      refine ⟨_, rfl, fun K hK => ?_⟩
                      have e50 : a.tmps[50]? = some (.bool (t197 == (rd y198 t183))) := by rw [ha]; exact putSel_on (e := (20, 50, .bool (t197 == (rd y198 t183)))) 19 rfl rfl (hon 20 (by kernel_rfl)) rfl
                      replace ha := Aside0.mk ha
                      have BK182 := Aside0.mk Q_BK182
                      have BK189 := Aside0.mk Q_BK189
                      have HB := Aside0.mk Q_HB
                      have HO195 := Aside0.mk (Q_HO195 (hon 3 (by kernel_rfl)))
                      have HA_HO195 := Aside0.mk (Q_HA_HO195 (hon 3 (by kernel_rfl)))
                      have HO200 := Aside0.mk (Q_HO200 (hon 14 (by kernel_rfl)))
                      have HA_HO200 := Aside0.mk (Q_HA_HO200 (hon 14 (by kernel_rfl)))
                      refine value_ (w1 := w') (v := .bool (t197 == (rd y198 t183))) (by rfl) rfl ?_ ?_
                      · go_simp
                        (try simp only [i64_w])
                        try rfl
                      refine hK.out _ _ ⟨v194, adz_v194, v199, adz_v199, m5_, m16_, (by rw [ha.out]; exact putSel_upk 20 hb_ rfl rfl rfl), Q_BK182, Q_BK189, Q_HB, Q_HO195, Q_HA_HO195, Q_HO200, Q_HA_HO200, Q_X5_, Q_X16_⟩
                    exact steps_nil
                  rintro b a w54 hall ⟨v194, adz_v194, v199, adz_v199, m5_, m16_, ha, Q_BK182, Q_BK189, Q_HB, Q_HO195, Q_HA_HO195, Q_HO200, Q_HA_HO200, Q_X5_, Q_X16_⟩
                  clear BK182 BK189 HB
                  have hb0_ := hall 0 (by kernel_rfl)
                  have hb1_ := hall 1 (by kernel_rfl)
                  have hb2_ := hall 2 (by kernel_rfl)
                  have hb3_ := hall 3 (by kernel_rfl)
                  have hb5_ := hall 5 (by kernel_rfl)
                  have hb6_ := hall 6 (by kernel_rfl)
                  have hb7_ := hall 7 (by kernel_rfl)
                  have hb8_ := hall 8 (by kernel_rfl)
                  have hb9_ := hall 9 (by kernel_rfl)
                  have hb10_ := hall 10 (by kernel_rfl)
                  have hb11_ := hall 11 (by kernel_rfl)
                  have hb12_ := hall 12 (by kernel_rfl)
                  have hb13_ := hall 13 (by kernel_rfl)
                  have hb14_ := hall 14 (by kernel_rfl)
                  have hb15_ := hall 15 (by kernel_rfl)
                  have hb16_ := hall 16 (by kernel_rfl)
                  have hb17_ := hall 17 (by kernel_rfl)
                  have hb18_ := hall 18 (by kernel_rfl)
                  have hb19_ := hall 19 (by kernel_rfl)
                  have hb20_ := hall 20 (by kernel_rfl)
                  have hb21_ := hall 21 (by kernel_rfl)
                  subst ha
                  obtain rfl := Q_X5_ hb5_
                  obtain rfl := Q_X16_ hb16_
                  simp only [putSel, hb0_, hb1_, hb2_, hb3_, hb5_, hb6_, hb7_, hb8_, hb9_, hb10_, hb11_, hb12_, hb13_, hb14_, hb15_, hb16_, hb17_, hb18_, hb19_, hb20_, hb21_, if_true, Act.put, List.setIfInBounds_toArray, List.set_cons_zero, List.set_cons_succ]
                  have BK182 := Aside0.mk Q_BK182
                  clear Q_BK182
                  have BK189 := Aside0.mk Q_BK189
                  clear Q_BK189
                  have HB := Aside0.mk Q_HB
                  clear Q_HB
                  have HO195 := Aside0.mk (Q_HO195 hb3_)
                  clear Q_HO195
                  have HA_HO195 := Aside0.mk (Q_HA_HO195 hb3_)
                  clear Q_HA_HO195
                  have HO200 := Aside0.mk (Q_HO200 hb14_)
                  clear Q_HO200
                  have HA_HO200 := Aside0.mk (Q_HA_HO200 hb14_)
                  clear Q_HA_HO200
                  clear hall hb0_ hb1_ hb2_ hb3_ hb5_ hb6_ hb7_ hb8_ hb9_ hb10_ hb11_ hb12_ hb13_ hb14_ hb15_ hb16_ hb17_ hb18_ hb19_ hb20_ hb21_
                  obtain ⟨co55, eo55⟩ := HA_HO195.out
                  clear HA_HO195
                  subst eo55
                  obtain ⟨co56, eo56⟩ := HA_HO200.out
                  clear HA_HO200
                  subst eo56
                  try go_wp2
                  go_ret
                  exact ⟨by first | rfl | (simp [errW_none, errW_some] <;> rfl) | (simp [*, errW_none, errW_some] <;> rfl), by repeat (first | (with_reducible first | exact HB.out | apply below_alloc | apply pw_below_drewN | apply below_drew1 | refine below_set ?_ GE182.out | refine below_set ?_ GE189.out) | exact HB.out)⟩
                · rw [if_neg c31] at H
                  exact absurd H (by simp)
              · replace c29 := Bool.eq_false_iff.mpr c29
                subst c29
                have H1 : (some true) = some r := by rw [if_neg (show ¬ (false = true) by decide)] at H; exact H
                clear H
                have H := H1
                clear H1
                obtain rfl := Option.some.inj H
                go_enter Try.func6, Try.ntmps6
                try go_wp2_with (first | ((with_reducible refine gate_callee (f := 28) rfl ?_); refine goesL_ (some 11) rfl rfl Try.func28 (by kernel_rfl) rfl #[.slice A0 l0.length c0] rfl (by (try simp only [List.map_toArray, List.map_cons, List.map_nil]); first | done | rfl | (simp only [List.length_drop, List.length_take]; rfl)) ?_; (with_reducible refine (spec_DrawKindOf.calls k _ _ l0 t180 t181 _ ?side1 ?side2 A3.out).mono ?_); (case side1 => repeat (first | exact HR0.out | (with_reducible refine Kd.C_alloc ?_ _) | (with_reducible refine Kd.C_drewN ?_ _) | (with_reducible refine Kd.C_drew ?_))); (case side2 => exact HC0.out); rintro e w57 ⟨rfl, hb⟩; refine ⟨_, rfl, ?_⟩; have n0_ := Aside0.mk (below_step (by repeat (first | (with_reducible first | exact HB.out | apply below_alloc | apply pw_below_drewN | apply below_drew1) | exact HB.out)) hb); clear HB; have HB := n0_; clear n0_; (try clear hb); (try clear hb2); (try clear hk); (try clear hi)) | ((with_reducible refine gate_dst (N := 3) rfl ?_); (try (refine gate_guard (by rfl) ?_; dsimp only)); refine box_event ?hg (N := 3) ?hd (cs := #[.int .i64 0, .int .i64 0]) (t := 25) ?hr ?_; (case hd => rfl); (case hg => first | rfl | exact wanted_on rfl rfl rfl (e41.trans (by first | rfl | (simp [*]; done)))); (case hr => first | (go_simp; done) | (go_simp; rfl)); intro gb182 hg w58 hbox hb; have n0_ := Aside0.mk (below_step (by repeat (first | (with_reducible first | exact HB.out | apply below_alloc | apply pw_below_drewN | apply below_drew1) | exact HB.out)) hb); have n1_ := Aside0.mk (hbox); have n2_ := Aside0.mk ((by rw [hg]; exact (below_size (by repeat (first | (with_reducible first | exact HB.out | apply below_alloc | apply pw_below_drewN | apply below_drew1) | exact HB.out))) : w.heap.size ≤ gb182)); have n3_ := Aside0.mk ((by rw [hg]; exact (below_size (by repeat (first | (with_reducible first | exact HB.out | apply below_alloc | apply pw_below_drewN | apply below_drew1) | exact HB.out))) : w.heap.size ≤ gb182)); clear HB; have HB := n0_; have BK182 := n1_; have GW182 := n2_; have GE182 := n3_; clear n0_ n1_ n2_ n3_; clear hb hbox hg; have hcz59_0 : w58.cell? ⟨gb182, 0, none⟩ = some (.int .i64 0) := (blk_cell BK182.out 0).trans rfl; have hcz59_1 : w58.cell? ⟨gb182, 1, none⟩ = some (.int .i64 0) := (blk_cell BK182.out 1).trans rfl; have hfz59_0 := blk_frozen BK182.out 0; have hfz59_1 := blk_frozen BK182.out 1) | ((with_reducible refine gate_callee (f := 29) rfl ?_); refine goesL_ (some 13) rfl rfl Try.func29 (by kernel_rfl) rfl #[.agg #[.int .i64 t180, .int .i64 t181]] rfl (by (try simp only [List.map_toArray, List.map_cons, List.map_nil]); first | done | rfl | (simp only [List.length_drop, List.length_take]; rfl)) ?_; (with_reducible refine (impl_KindOf.calls k t180 t181 t183 _ A4.out).mono ?_); rintro e w60 ⟨rfl, hb⟩; refine ⟨_, rfl, ?_⟩; have n0_ := Aside0.mk (blk_below (g := gb182) (o := .cells #[.int .i64 t180, .int .i64 t181] 25 (0, 0)) (by (with_reducible repeat (first | refine blk_drewN ?_ _ | refine blk_drew ?_ | refine blk_alloc ?_ _)); refine blk_put (cs := #[.int .i64 t180, .int .i64 0]) ?_ 1 _ rfl; (with_reducible repeat (first | refine blk_drewN ?_ _ | refine blk_drew ?_ | refine blk_alloc ?_ _)); refine blk_put (cs := #[.int .i64 0, .int .i64 0]) ?_ 0 _ rfl; (with_reducible repeat (first | refine blk_drewN ?_ _ | refine blk_drew ?_ | refine blk_alloc ?_ _)); exact BK182.out) hb); have n1_ := Aside0.mk (below_step (by repeat (first | (with_reducible first | exact HB.out | apply below_alloc | apply pw_below_drewN | apply below_drew1 | refine below_set ?_ GE182.out) | exact HB.out)) hb); clear BK182; clear HB; have BK182 := n0_; have HB := n1_; clear n0_ n1_; (try clear hb); (try clear hb2); (try clear hk); (try clear hi); have hcz61_0 : w60.cell? ⟨gb182, 0, none⟩ = some (.int .i64 t180) := (blk_cell BK182.out 0).trans rfl; have hcz61_1 : w60.cell? ⟨gb182, 1, none⟩ = some (.int .i64 t181) := (blk_cell BK182.out 1).trans rfl; have hfz61_0 := blk_frozen BK182.out 0; have hfz61_1 := blk_frozen BK182.out 1) | ((with_reducible refine gate_callee (f := 30) rfl ?_); refine goesL_ (some 16) rfl rfl Try.func30 (by kernel_rfl) rfl #[.agg #[.int .i64 t180, .int .i64 t181]] rfl (by (try simp only [List.map_toArray, List.map_cons, List.map_nil]); first | done | rfl | (simp only [List.length_drop, List.length_take]; rfl)) ?_; (with_reducible refine (spec_KindOf.calls k t180 t181 t184 _ A5.out).mono ?_); rintro e w62 ⟨rfl, hb⟩; refine ⟨_, rfl, ?_⟩; have n0_ := Aside0.mk (blk_below (g := gb182) (o := .cells #[.int .i64 t180, .int .i64 t181] 25 (0, 0)) (by (with_reducible repeat (first | refine blk_drewN ?_ _ | refine blk_drew ?_ | refine blk_alloc ?_ _)); exact BK182.out) hb); have n1_ := Aside0.mk (below_step (by repeat (first | (with_reducible first | exact HB.out | apply below_alloc | apply pw_below_drewN | apply below_drew1 | refine below_set ?_ GE182.out) | exact HB.out)) hb); clear BK182; clear HB; have BK182 := n0_; have HB := n1_; clear n0_ n1_; (try clear hb); (try clear hb2); (try clear hk); (try clear hi); have hcz63_0 : w62.cell? ⟨gb182, 0, none⟩ = some (.int .i64 t180) := (blk_cell BK182.out 0).trans rfl; have hcz63_1 : w62.cell? ⟨gb182, 1, none⟩ = some (.int .i64 t181) := (blk_cell BK182.out 1).trans rfl; have hfz63_0 := blk_frozen BK182.out 0; have hfz63_1 := blk_frozen BK182.out 1) | ((with_reducible refine gate_callee (f := 31) rfl ?_); refine goesL_ (some 27) rfl rfl Try.func31 (by kernel_rfl) rfl #[.agg #[.int .i64 t180, .int .i64 t181], .int .i64 1] rfl (by (try simp only [List.map_toArray, List.map_cons, List.map_nil]); first | done | rfl | (simp only [List.length_drop, List.length_take]; rfl)) ?_; (with_reducible refine (impl_PlusOf.calls k t180 t181 1 t186 t187 false _ A23.out).mono ?_); rintro e w64 ⟨rfl, hb⟩; refine ⟨_, rfl, ?_⟩; have n0_ := Aside0.mk (blk_below (g := gb182) (o := .cells #[.int .i64 t180, .int .i64 t181] 25 (0, 0)) (by (with_reducible repeat (first | refine blk_drewN ?_ _ | refine blk_drew ?_ | refine blk_alloc ?_ _)); exact BK182.out) hb); have n1_ := Aside0.mk (below_step (by repeat (first | (with_reducible first | exact HB.out | apply below_alloc | apply pw_below_drewN | apply below_drew1 | refine below_set ?_ GE182.out) | exact HB.out)) hb); clear BK182; clear HB; have BK182 := n0_; have HB := n1_; clear n0_ n1_; (try clear hb); (try clear hb2); (try clear hk); (try clear hi)) | ((with_reducible refine gate_dst (N := 5) rfl ?_); (try (refine gate_guard (by rfl) ?_; dsimp only)); refine box_event ?hg (N := 5) ?hd (cs := #[.int .i64 0, .int .i64 0]) (t := 25) ?hr ?_; (case hd => rfl); (case hg => first | rfl | exact wanted_on rfl rfl rfl (e41.trans (by first | rfl | (simp [*]; done)))); (case hr => first | (go_simp; done) | (go_simp; rfl)); intro gb189 hg w65 hbox hb; have n0_ := Aside0.mk (blk_below (g := gb182) (o := .cells #[.int .i64 t180, .int .i64 t181] 25 (0, 0)) (by (with_reducible repeat (first | refine blk_drewN ?_ _ | refine blk_drew ?_ | refine blk_alloc ?_ _)); exact BK182.out) hb); have n1_ := Aside0.mk (below_step (by repeat (first | (with_reducible first | exact HB.out | apply below_alloc | apply pw_below_drewN | apply below_drew1 | refine below_set ?_ GE182.out) | exact HB.out)) hb); have n2_ := Aside0.mk (hbox); have n3_ := Aside0.mk ((by rw [hg]; exact (below_size (by repeat (first | (with_reducible first | exact HB.out | apply below_alloc | apply pw_below_drewN | apply below_drew1 | refine below_set ?_ GE182.out) | exact HB.out))) : w.heap.size ≤ gb189)); have n4_ := Aside0.mk ((by rw [hg]; exact (below_size (by repeat (first | (with_reducible first | exact HB.out | apply below_alloc | apply pw_below_drewN | apply below_drew1 | refine below_set ?_ GE182.out) | exact HB.out))) : w.heap.size ≤ gb189)); have n5_ := Aside0.mk ((by rw [hg]; exact Nat.ne_of_lt (blk_lt (g := gb182) (o := .cells #[.int .i64 t180, .int .i64 t181] 25 (0, 0)) (by (with_reducible repeat (first | refine blk_drewN ?_ _ | refine blk_drew ?_ | refine blk_alloc ?_ _)); exact BK182.out)) : gb182 ≠ gb189)); have n6_ := Aside0.mk ((by rw [hg]; exact Nat.ne_of_gt (blk_lt (g := gb182) (o := .cells #[.int .i64 t180, .int .i64 t181] 25 (0, 0)) (by (with_reducible repeat (first | refine blk_drewN ?_ _ | refine blk_drew ?_ | refine blk_alloc ?_ _)); exact BK182.out)) : gb189 ≠ gb182)); clear BK182; clear HB; have BK182 := n0_; have HB := n1_; have BK189 := n2_; have GW189 := n3_; have GE189 := n4_; have NB182_189 := n5_; have NB189_182 := n6_; clear n0_ n1_ n2_ n3_ n4_ n5_ n6_; clear hb hbox hg; have hnb66 := NB189_182.out; have hnc66 := NB182_189.out; have hcz67_0 : w65.cell? ⟨gb189, 0, none⟩ = some (.int .i64 0) := (blk_cell BK189.out 0).trans rfl; have hcz67_1 : w65.cell? ⟨gb189, 1, none⟩ = some (.int .i64 0) := (blk_cell BK189.out 1).trans rfl; have hfz67_0 := blk_frozen BK189.out 0; have hfz67_1 := blk_frozen BK189.out 1))
                have pi196 : (0 ≤ (t183 : Int)) = True := eq_true (of_decide_eq_true (by first | (with_reducible assumption) | assumption))
                have qi196 : (t183 < (y193.length : Int)) = True := eq_true (of_decide_eq_true (by first | (with_reducible assumption) | assumption))
                have n0_ : Aside0 (((w65.setCell ⟨gb189, 0, none⟩ (.int .i64 t186)).setCell ⟨gb189, 1, none⟩ (.int .i64 t187)).heap[gb182]? = some (.cells #[.int .i64 t180, .int .i64 t181] 25 (0, 0))) := ⟨by (with_reducible repeat (first | refine blk_drewN ?_ _ | refine blk_drew ?_ | refine blk_alloc ?_ _)); refine blk_far ?_ NB182_189.out _; (with_reducible repeat (first | refine blk_drewN ?_ _ | refine blk_drew ?_ | refine blk_alloc ?_ _)); refine blk_far ?_ NB182_189.out _; (with_reducible repeat (first | refine blk_drewN ?_ _ | refine blk_drew ?_ | refine blk_alloc ?_ _)); exact BK182.out⟩
                have n1_ : Aside0 (((w65.setCell ⟨gb189, 0, none⟩ (.int .i64 t186)).setCell ⟨gb189, 1, none⟩ (.int .i64 t187)).heap[gb189]? = some (.cells #[.int .i64 t186, .int .i64 t187] 25 (0, 0))) := ⟨by (with_reducible repeat (first | refine blk_drewN ?_ _ | refine blk_drew ?_ | refine blk_alloc ?_ _)); refine blk_put (cs := #[.int .i64 t186, .int .i64 0]) ?_ 1 _ rfl; (with_reducible repeat (first | refine blk_drewN ?_ _ | refine blk_drew ?_ | refine blk_alloc ?_ _)); refine blk_put (cs := #[.int .i64 0, .int .i64 0]) ?_ 0 _ rfl; (with_reducible repeat (first | refine blk_drewN ?_ _ | refine blk_drew ?_ | refine blk_alloc ?_ _)); exact BK189.out⟩
                have n2_ : Aside0 (Below w.heap.size w ((w65.setCell ⟨gb189, 0, none⟩ (.int .i64 t186)).setCell ⟨gb189, 1, none⟩ (.int .i64 t187))) := ⟨by repeat (first | (with_reducible first | exact HB.out | apply below_alloc | apply pw_below_drewN | apply below_drew1 | refine below_set ?_ GE182.out | refine below_set ?_ GE189.out) | exact HB.out)⟩
                (try clear BK182)
                (try clear BK189)
                (try clear HB)
                generalize ((w65.setCell ⟨gb189, 0, none⟩ (.int .i64 t186)).setCell ⟨gb189, 1, none⟩ (.int .i64 t187)) = w68 at n0_ n1_ n2_ ⊢
                have BK182 := n0_
                have BK189 := n1_
                have HB := n2_
                clear n0_ n1_ n2_
                have n0_ := Aside0.mk (blk_drew BK182.out)
                have n1_ := Aside0.mk (blk_drew BK189.out)
                have n2_ := Aside0.mk (below_drew1 HB.out)
                clear BK182
                clear BK189
                clear HB
                have BK182 := n0_
                have BK189 := n1_
                have HB := n2_
                clear n0_ n1_ n2_
                refine start_ (n := 22) (S := fun w' => True) (ds := []) #[false, false, false, false, false, false, false, false, false, false, false, false, false, false, false, false, false, false, false, false, false, false] (by kernel_rfl) rfl rfl trivial (fun hHeld => ?_); refine with_tabW laws_FnKindOf.tab10 laws_FnKindOf.bits10 (fun HT_ HW_ => ?_)
                generalize w68.drew = w69 at BK182 BK189 HB hHeld ⊢
                refine pure_ (i := 4) (N := some 34) (v := ?_) (a' := ?_) #[false, false, false, false, true, false, false, false, false, false, false, false, false, false, false, false, false, false, false, false, false, false] rfl rfl (any_of HT_.out (by kernel_rfl)) (fun _ _ _ h => h) (Or.inl ⟨by rfl, ?_⟩) ?_ ?_
                rotate_left
                · intro w'
                  go_simp
                  with_reducible rfl
                rotate_left
                · simp only [Act.put, List.setIfInBounds_toArray, List.set_cons_zero, List.set_cons_succ, i64_w, i32_w]
                  rfl
                refine inv_at [0, 1, 2, 3, 5, 6, 7, 8, 9, 10, 11, 12, 13, 14, 15, 16, 17, 18, 19, 20, 21] (fun a0_ b a w' => ∃ (v194 : Value) (adz_v194 : Addr) (m5_ : Value), a = putSel a0_ b [(0, 30, .agg #[.int .i64 t180, .int .i64 t181]), (1, 31, .agg #[.int .i64 t190, .int .i64 t191]), (2, 32, .int .i64 t192), (3, 33, v194), (5, 35, m5_), (6, 36, .int .i64 (rd y193 t183)), (7, 37, .bool (t192 == (rd y193 t183))), (8, 38, .bool (t192 == (rd y193 t183))), (9, 39, .bool false), (10, 40, .bool (!false)), (11, 41, .bool (!false)), (12, 42, undef), (13, 43, undef), (14, 44, undef), (15, 45, undef), (16, 46, undef), (17, 47, undef), (18, 48, undef), (19, 49, .bool true), (20, 50, .bool true), (21, 2, .bool true)] ∧ (w'.heap[gb182]? = some (.cells #[.int .i64 t180, .int .i64 t181] 25 (0, 0))) ∧ (w'.heap[gb189]? = some (.cells #[.int .i64 t186, .int .i64 t187] 25 (0, 0))) ∧ (Below w.heap.size w w') ∧ (b 3 = true → Kd.R (Kd.int .i64) 3 w' w.heap.size (fun _ => True) v194 y193) ∧ (b 3 = true → ∃ c_, (v194 : Value) = .slice (some adz_v194) y193.length c_) ∧ (b 5 = true → (m5_ : Value) = .pointer (some (adz_v194.add (t183).toNat)))) HT_.out HW_.out (by kernel_rfl) (by kernel_rfl) ?_ ?_ ?_
                · exact ⟨.bool false, ⟨0, 0, none⟩, .bool false, by simp only [putSel, Bool.false_eq_true, if_false], BK182.out, BK189.out, HB.out, fun h_ => absurd h_ (by decide), fun h_ => absurd h_ (by decide), fun h_ => absurd h_ (by decide)⟩
                · skip
                  clear BK182 BK189 HB
                  refine steps_cons ?_ ?_
                  · rintro b a w' ⟨v194, adz_v194, m5_, ha, Q_BK182, Q_BK189, Q_HB, Q_HO195, Q_HA_HO195, Q_X5_⟩ hb_ hon hoff
                    refine ⟨_, rfl, fun K hK => ?_⟩
                    have e3 : a.tmps[3]? = some (.pointer (some ⟨gb182, 0, none⟩)) := by rw [ha]; exact (putSel_off rfl).trans rfl
                    replace ha := Aside0.mk ha
                    have BK182 := Aside0.mk Q_BK182
                    have BK189 := Aside0.mk Q_BK189
                    have HB := Aside0.mk Q_HB
                    have hc0_ : w'.cell? ⟨gb182, 0, none⟩ = some (.int .i64 t180) := (blk_cell BK182.out 0).trans rfl
                    have hc1_ : w'.cell? ⟨gb182, 1, none⟩ = some (.int .i64 t181) := (blk_cell BK182.out 1).trans rfl
                    refine value_ (w1 := w') (v := .agg #[.int .i64 t180, .int .i64 t181]) (by rfl) rfl ?_ ?_
                    · go_simp
                      (try simp only [i64_w])
                      try rfl
                    refine hK.out _ _ ⟨v194, adz_v194, m5_, (by rw [ha.out]; exact putSel_upk 0 hb_ rfl rfl rfl), Q_BK182, Q_BK189, Q_HB, Q_HO195, Q_HA_HO195, Q_X5_⟩
                  refine steps_cons ?_ ?_
                  · rintro b a w' ⟨v194, adz_v194, m5_, ha, Q_BK182, Q_BK189, Q_HB, Q_HO195, Q_HA_HO195, Q_X5_⟩ hb_ hon hoff
                    refine ⟨_, rfl, fun K hK => ?_⟩
                    have e30 : a.tmps[30]? = some (.agg #[.int .i64 t180, .int .i64 t181]) := by rw [ha]; exact putSel_on (e := (0, 30, .agg #[.int .i64 t180, .int .i64 t181])) 0 rfl rfl (hon 0 (by kernel_rfl)) rfl
                    replace ha := Aside0.mk ha
                    have BK182 := Aside0.mk Q_BK182
                    have BK189 := Aside0.mk Q_BK189
                    have HB := Aside0.mk Q_HB
                    refine goes_ Try.func32 (by kernel_rfl) rfl #[.agg #[.int .i64 t180, .int .i64 t181]] (by first | rfl | exact wanted_on rfl rfl rfl (e41.trans (by first | rfl | (simp [*]; done)))) rfl rfl (by first | (simp only [List.map_toArray, List.map_cons, List.map_nil, Act.eval, Array.getD_eq_getD_getElem?, Option.getD_some, e30]; done) | (simp only [List.map_toArray, List.map_cons, List.map_nil, Act.eval, Array.getD_eq_getD_getElem?, Option.getD_some, e30]; rfl)) ?_
                    with_reducible refine (impl_OverOf.calls k t180 t181 t190 t191 _ A24.out).mono ?_
                    rintro e w70 ⟨rfl, hb⟩
                    refine ⟨_, rfl, ?_⟩
                    have n0_ := Aside0.mk (blk_below (g := gb182) (o := .cells #[.int .i64 t180, .int .i64 t181] 25 (0, 0)) (by (with_reducible repeat (first | refine blk_drewN ?_ _ | refine blk_drew ?_ | refine blk_alloc ?_ _)); exact BK182.out) hb)
                    have n1_ := Aside0.mk (blk_below (g := gb189) (o := .cells #[.int .i64 t186, .int .i64 t187] 25 (0, 0)) (by (with_reducible repeat (first | refine blk_drewN ?_ _ | refine blk_drew ?_ | refine blk_alloc ?_ _)); exact BK189.out) hb)
                    have n2_ := Aside0.mk (below_step (by repeat (first | (with_reducible first | exact HB.out | apply below_alloc | apply pw_below_drewN | apply below_drew1 | refine below_set ?_ GE182.out | refine below_set ?_ GE189.out) | exact HB.out)) hb)
                    have z_HO195 := fun (h0_ : b 3 = true) => (show Kd.R (Kd.int .i64) 3 w70 w.heap.size (fun _ => True) v194 y193 from by first | exact (Kd.R_below (by (with_reducible repeat (first | apply Kd.R_alloc | apply Kd.R_drewN | apply Kd.R_drew)); exact (Q_HO195 h0_)) hb) | exact Kd.R_mono (Kd.R_below (by (with_reducible repeat (first | apply Kd.R_alloc | apply Kd.R_drewN | apply Kd.R_drew)); exact (Q_HO195 h0_)) hb) (fun _ h_ => by first | trivial | exact h_ | exact h_.1))
                    clear BK182
                    clear BK189
                    clear HB
                    have BK182 := n0_
                    have BK189 := n1_
                    have HB := n2_
                    clear n0_ n1_ n2_
                    (try clear hb)
                    (try clear hb2)
                    (try clear hk)
                    (try clear hi)
                    refine hK.out _ _ ⟨v194, adz_v194, m5_, (by rw [ha.out]; exact putSel_upk 1 hb_ rfl rfl rfl), (by (with_reducible repeat (first | refine blk_drewN ?_ _ | refine blk_drew ?_ | refine blk_alloc ?_ _)); exact BK182.out), (by (with_reducible repeat (first | refine blk_drewN ?_ _ | refine blk_drew ?_ | refine blk_alloc ?_ _)); exact BK189.out), (by repeat (first | (with_reducible first | exact HB.out | apply below_alloc | apply pw_below_drewN | apply below_drew1 | refine below_set ?_ GE182.out | refine below_set ?_ GE189.out) | exact HB.out)), z_HO195, Q_HA_HO195, Q_X5_⟩
                  refine steps_cons ?_ ?_
                  · rintro b a w' ⟨v194, adz_v194, m5_, ha, Q_BK182, Q_BK189, Q_HB, Q_HO195, Q_HA_HO195, Q_X5_⟩ hb_ hon hoff
                    refine ⟨_, rfl, fun K hK => ?_⟩
                    have e31 : a.tmps[31]? = some (.agg #[.int .i64 t190, .int .i64 t191]) := by rw [ha]; exact putSel_on (e := (1, 31, .agg #[.int .i64 t190, .int .i64 t191])) 1 rfl rfl (hon 1 (by kernel_rfl)) rfl
                    replace ha := Aside0.mk ha
                    have BK182 := Aside0.mk Q_BK182
                    have BK189 := Aside0.mk Q_BK189
                    have HB := Aside0.mk Q_HB
                    refine goes_ Try.func29 (by kernel_rfl) rfl #[.agg #[.int .i64 t190, .int .i64 t191]] (by first | rfl | exact wanted_on rfl rfl rfl (e41.trans (by first | rfl | (simp [*]; done)))) rfl rfl (by first | (simp only [List.map_toArray, List.map_cons, List.map_nil, Act.eval, Array.getD_eq_getD_getElem?, Option.getD_some, e31]; done) | (simp only [List.map_toArray, List.map_cons, List.map_nil, Act.eval, Array.getD_eq_getD_getElem?, Option.getD_some, e31]; rfl)) ?_
                    with_reducible refine (impl_KindOf.calls k t190 t191 t192 _ A25.out).mono ?_
                    rintro e w72 ⟨rfl, hb⟩
                    refine ⟨_, rfl, ?_⟩
                    have n0_ := Aside0.mk (blk_below (g := gb182) (o := .cells #[.int .i64 t180, .int .i64 t181] 25 (0, 0)) (by (with_reducible repeat (first | refine blk_drewN ?_ _ | refine blk_drew ?_ | refine blk_alloc ?_ _)); exact BK182.out) hb)
                    have n1_ := Aside0.mk (blk_below (g := gb189) (o := .cells #[.int .i64 t186, .int .i64 t187] 25 (0, 0)) (by (with_reducible repeat (first | refine blk_drewN ?_ _ | refine blk_drew ?_ | refine blk_alloc ?_ _)); exact BK189.out) hb)
                    have n2_ := Aside0.mk (below_step (by repeat (first | (with_reducible first | exact HB.out | apply below_alloc | apply pw_below_drewN | apply below_drew1 | refine below_set ?_ GE182.out | refine below_set ?_ GE189.out) | exact HB.out)) hb)
                    have z_HO195 := fun (h0_ : b 3 = true) => (show Kd.R (Kd.int .i64) 3 w72 w.heap.size (fun _ => True) v194 y193 from by first | exact (Kd.R_below (by (with_reducible repeat (first | apply Kd.R_alloc | apply Kd.R_drewN | apply Kd.R_drew)); exact (Q_HO195 h0_)) hb) | exact Kd.R_mono (Kd.R_below (by (with_reducible repeat (first | apply Kd.R_alloc | apply Kd.R_drewN | apply Kd.R_drew)); exact (Q_HO195 h0_)) hb) (fun _ h_ => by first | trivial | exact h_ | exact h_.1))
                    clear BK182
                    clear BK189
                    clear HB
                    have BK182 := n0_
                    have BK189 := n1_
                    have HB := n2_
                    clear n0_ n1_ n2_
                    (try clear hb)
                    (try clear hb2)
                    (try clear hk)
                    (try clear hi)
                    refine hK.out _ _ ⟨v194, adz_v194, m5_, (by rw [ha.out]; exact putSel_upk 2 hb_ rfl rfl rfl), (by (with_reducible repeat (first | refine blk_drewN ?_ _ | refine blk_drew ?_ | refine blk_alloc ?_ _)); exact BK182.out), (by (with_reducible repeat (first | refine blk_drewN ?_ _ | refine blk_drew ?_ | refine blk_alloc ?_ _)); exact BK189.out), (by repeat (first | (with_reducible first | exact HB.out | apply below_alloc | apply pw_below_drewN | apply below_drew1 | refine below_set ?_ GE182.out | refine below_set ?_ GE189.out) | exact HB.out)), z_HO195, Q_HA_HO195, Q_X5_⟩
                  refine steps_cons ?_ ?_
                  · rintro b a w' ⟨v194, adz_v194, m5_, ha, Q_BK182, Q_BK189, Q_HB, Q_HO195, Q_HA_HO195, Q_X5_⟩ hb_ hon hoff
                    refine ⟨_, rfl, fun K hK => ?_⟩
                    replace ha := Aside0.mk ha
                    have BK182 := Aside0.mk Q_BK182
                    have BK189 := Aside0.mk Q_BK189
                    have HB := Aside0.mk Q_HB
                    refine Kd.R_lit_step (Kd.int .i64) _ 3 ?hg (N := 33) ?hd (xs := ([1, 0, 2] : List Int)) (inner := [.int .i64 1, .int .i64 0, .int .i64 2]) (ok := fun _ => True) (okp := fun _ => True) ?hr ?hp (fun _ hk => hk) trivial (Below.refl _ _) (Nat.le_refl _) (by simp) ?_; (case hd => rfl); (case hg => first | rfl | exact wanted_on rfl rfl rfl (e41.trans (by first | rfl | (simp [*]; done)))); (case hr => first | (go_simp; done) | (go_simp; rfl)); (case hp => exact (Reps.one (show Kd.M (Kd.int .i64) _ _ _ 1 [.int .i64 1] from rfl) (Reps.one (show Kd.M (Kd.int .i64) _ _ _ 0 [.int .i64 0] from rfl) (Reps.one (show Kd.M (Kd.int .i64) _ _ _ 2 [.int .i64 2] from rfl) (Reps.none _ _)))))
                    intro v194 w70 ho71 hb hg_ hnew_
                    clear hg_ hnew_
                    (first | rw [← Ny193.out] at ho71 | (simp only [Int.reduceToNat] at ho71; rw [← Ny193.out] at ho71))
                    have n0_ := Aside0.mk (Kd.R_lower ho71 (below_size (by repeat (first | (with_reducible first | exact HB.out | apply below_alloc | apply pw_below_drewN | apply below_drew1 | refine below_set ?_ GE182.out | refine below_set ?_ GE189.out) | exact HB.out))))
                    have n1_ := Aside0.mk (blk_below (g := gb182) (o := .cells #[.int .i64 t180, .int .i64 t181] 25 (0, 0)) (by (with_reducible repeat (first | refine blk_drewN ?_ _ | refine blk_drew ?_ | refine blk_alloc ?_ _)); exact BK182.out) hb)
                    have n2_ := Aside0.mk (blk_below (g := gb189) (o := .cells #[.int .i64 t186, .int .i64 t187] 25 (0, 0)) (by (with_reducible repeat (first | refine blk_drewN ?_ _ | refine blk_drew ?_ | refine blk_alloc ?_ _)); exact BK189.out) hb)
                    have n3_ := Aside0.mk (below_step (by repeat (first | (with_reducible first | exact HB.out | apply below_alloc | apply pw_below_drewN | apply below_drew1 | refine below_set ?_ GE182.out | refine below_set ?_ GE189.out) | exact HB.out)) hb)
                    clear BK182
                    clear BK189
                    clear HB
                    have HO195 := n0_
                    have BK182 := n1_
                    have BK189 := n2_
                    have HB := n3_
                    clear n0_ n1_ n2_ n3_
                    clear hb ho71
                    obtain ⟨Ao72, co72, eo72⟩ := Kd.R_slice HO195.out
                    subst eo72
                    obtain ⟨ado72, fo72, _⟩ := Kd.at_int (Kd.R_reads' HO195.out).2.2 0 (by decide) (by rw [Ny193.out]; simp)
                    cases fo72
                    refine hK.out _ _ ⟨.slice (some ado72) y193.length co72, ado72, m5_, (by rw [ha.out]; exact putSel_upk 3 hb_ rfl rfl rfl), (by (with_reducible repeat (first | refine blk_drewN ?_ _ | refine blk_drew ?_ | refine blk_alloc ?_ _)); exact BK182.out), (by (with_reducible repeat (first | refine blk_drewN ?_ _ | refine blk_drew ?_ | refine blk_alloc ?_ _)); exact BK189.out), (by repeat (first | (with_reducible first | exact HB.out | apply below_alloc | apply pw_below_drewN | apply below_drew1 | refine below_set ?_ GE182.out | refine below_set ?_ GE189.out) | exact HB.out)), fun _ => (by (with_reducible repeat (first | apply Kd.R_alloc | apply Kd.R_drewN | apply Kd.R_drew)); exact HO195.out), fun _ => ⟨_, rfl⟩, fun h0_ => absurd ((hoff 5 (by kernel_rfl)).symm.trans h0_) (by decide)⟩
                  refine steps_cons ?_ ?_
                  · rintro b a w' ⟨v194, adz_v194, m5_, ha, Q_BK182, Q_BK189, Q_HB, Q_HO195, Q_HA_HO195, Q_X5_⟩ hb_ hon hoff
                    refine ⟨_, rfl, fun K hK => ?_⟩
                    have e33 : a.tmps[33]? = some (v194) := by rw [ha]; exact putSel_on (e := (3, 33, v194)) 3 rfl rfl (hon 3 (by kernel_rfl)) rfl
                    have e34 : a.tmps[34]? = some (.int .i64 t183) := by rw [ha]; exact (putSel_off rfl).trans rfl
                    replace ha := Aside0.mk ha
                    have BK182 := Aside0.mk Q_BK182
                    have BK189 := Aside0.mk Q_BK189
                    have HB := Aside0.mk Q_HB
                    have HO195 := Aside0.mk (Q_HO195 (hon 3 (by kernel_rfl)))
                    have HA_HO195 := Aside0.mk (Q_HA_HO195 (hon 3 (by kernel_rfl)))
                    obtain ⟨c_, hv_⟩ := HA_HO195.out
                    rw [hv_] at e33
                    refine value_ (w1 := w') (v := .pointer (some (adz_v194.add (t183).toNat))) (by rfl) rfl ?_ ?_
                    · go_simp
                      (try simp only [i64_w])
                      try rfl
                    refine hK.out _ _ ⟨v194, adz_v194, (.pointer (some (adz_v194.add (t183).toNat))), (by rw [ha.out]; exact putSel_upk 4 hb_ rfl rfl rfl), Q_BK182, Q_BK189, Q_HB, Q_HO195, Q_HA_HO195, fun _ => rfl⟩
                  refine steps_cons ?_ ?_
                  · rintro b a w' ⟨v194, adz_v194, m5_, ha, Q_BK182, Q_BK189, Q_HB, Q_HO195, Q_HA_HO195, Q_X5_⟩ hb_ hon hoff
                    refine ⟨_, rfl, fun K hK => ?_⟩
                    have e35 : a.tmps[35]? = some (m5_) := by rw [ha]; exact putSel_on (e := (5, 35, m5_)) 4 rfl rfl (hon 5 (by kernel_rfl)) rfl
                    rw [Q_X5_ (hon 5 (by kernel_rfl))] at e35
                    replace ha := Aside0.mk ha
                    have BK182 := Aside0.mk Q_BK182
                    have BK189 := Aside0.mk Q_BK189
                    have HB := Aside0.mk Q_HB
                    have HO195 := Aside0.mk (Q_HO195 (hon 3 (by kernel_rfl)))
                    have HA_HO195 := Aside0.mk (Q_HA_HO195 (hon 3 (by kernel_rfl)))
                    obtain ⟨c_, hv_⟩ := HA_HO195.out
                    have hF_ := HO195.out
                    rw [hv_] at hF_
                    obtain ⟨ad_, ea_, hx_⟩ := Kd.at_int (Kd.R_reads' hF_).2.2 t183 (of_eq_true pi196) (of_eq_true qi196)
                    cases ea_
                    refine value_ (w1 := w') (v := .int .i64 (rd y193 t183)) (by rfl) rfl ?_ ?_
                    · go_simp
                      (try simp only [i64_w])
                      try rfl
                    refine hK.out _ _ ⟨v194, adz_v194, m5_, (by rw [ha.out]; exact putSel_upk 5 hb_ rfl rfl rfl), Q_BK182, Q_BK189, Q_HB, Q_HO195, Q_HA_HO195, Q_X5_⟩
                  refine steps_cons ?_ ?_
                  · rintro b a w' ⟨v194, adz_v194, m5_, ha, Q_BK182, Q_BK189, Q_HB, Q_HO195, Q_HA_HO195, Q_X5_⟩ hb_ hon hoff
                    refine ⟨_, rfl, fun K hK => ?_⟩
                    have e32 : a.tmps[32]? = some (.int .i64 t192) := by rw [ha]; exact putSel_on (e := (2, 32, .int .i64 t192)) 2 rfl rfl (hon 2 (by kernel_rfl)) rfl
                    have e36 : a.tmps[36]? = some (.int .i64 (rd y193 t183)) := by rw [ha]; exact putSel_on (e := (6, 36, .int .i64 (rd y193 t183))) 5 rfl rfl (hon 6 (by kernel_rfl)) rfl
                    replace ha := Aside0.mk ha
                    have BK182 := Aside0.mk Q_BK182
                    have BK189 := Aside0.mk Q_BK189
                    have HB := Aside0.mk Q_HB
                    have HO195 := Aside0.mk (Q_HO195 (hon 3 (by kernel_rfl)))
                    have HA_HO195 := Aside0.mk (Q_HA_HO195 (hon 3 (by kernel_rfl)))
                    refine value_ (w1 := w') (v := .bool (t192 == (rd y193 t183))) (by rfl) rfl ?_ ?_
                    · go_simp
                      (try simp only [i64_w])
                      try rfl
                    refine hK.out _ _ ⟨v194, adz_v194, m5_, (by rw [ha.out]; exact putSel_upk 6 hb_ rfl rfl rfl), Q_BK182, Q_BK189, Q_HB, Q_HO195, Q_HA_HO195, Q_X5_⟩
                  refine steps_cons ?_ ?_
                  · rintro b a w' ⟨v194, adz_v194, m5_, ha, Q_BK182, Q_BK189, Q_HB, Q_HO195, Q_HA_HO195, Q_X5_⟩ hb_ hon hoff
                    refine ⟨_, rfl, fun K hK => ?_⟩
                    have e37 : a.tmps[37]? = some (.bool (t192 == (rd y193 t183))) := by rw [ha]; exact putSel_on (e := (7, 37, .bool (t192 == (rd y193 t183)))) 6 rfl rfl (hon 7 (by kernel_rfl)) rfl
                    replace ha := Aside0.mk ha
                    have BK182 := Aside0.mk Q_BK182
                    have BK189 := Aside0.mk Q_BK189
                    have HB := Aside0.mk Q_HB
                    have HO195 := Aside0.mk (Q_HO195 (hon 3 (by kernel_rfl)))
                    have HA_HO195 := Aside0.mk (Q_HA_HO195 (hon 3 (by kernel_rfl)))
                    refine value_ (w1 := w') (v := .bool (t192 == (rd y193 t183))) (by rfl) rfl ?_ ?_
                    · go_simp
                      (try simp only [i64_w])
                      try rfl
                    refine hK.out _ _ ⟨v194, adz_v194, m5_, (by rw [ha.out]; exact putSel_upk 7 hb_ rfl rfl rfl), Q_BK182, Q_BK189, Q_HB, Q_HO195, Q_HA_HO195, Q_X5_⟩
                  refine steps_cons ?_ ?_
                  · rintro b a w' ⟨v194, adz_v194, m5_, ha, Q_BK182, Q_BK189, Q_HB, Q_HO195, Q_HA_HO195, Q_X5_⟩ hb_ hon hoff
                    refine ⟨_, rfl, fun K hK => ?_⟩
                    have e6 : a.tmps[6]? = some (.bool false) := by rw [ha]; exact (putSel_off rfl).trans rfl
                    have e38 : a.tmps[38]? = some (.bool (t192 == (rd y193 t183))) := by rw [ha]; exact putSel_on (e := (8, 38, .bool (t192 == (rd y193 t183)))) 7 rfl rfl (hon 8 (by kernel_rfl)) rfl
                    replace ha := Aside0.mk ha
                    have BK182 := Aside0.mk Q_BK182
                    have BK189 := Aside0.mk Q_BK189
                    have HB := Aside0.mk Q_HB
                    have HO195 := Aside0.mk (Q_HO195 (hon 3 (by kernel_rfl)))
                    have HA_HO195 := Aside0.mk (Q_HA_HO195 (hon 3 (by kernel_rfl)))
                    refine value_ (w1 := w') (v := .bool false) (wanted_on rfl rfl rfl (e38.trans (by first | rfl | (simp [*]; done)))) rfl ?_ ?_
                    · go_simp
                      (try simp only [i64_w])
                      try rfl
                    refine hK.out _ _ ⟨v194, adz_v194, m5_, (by rw [ha.out]; exact putSel_upk 8 hb_ rfl rfl rfl), Q_BK182, Q_BK189, Q_HB, Q_HO195, Q_HA_HO195, Q_X5_⟩
                  refine steps_cons ?_ ?_
                  · rintro b a w' ⟨v194, adz_v194, m5_, ha, Q_BK182, Q_BK189, Q_HB, Q_HO195, Q_HA_HO195, Q_X5_⟩ hb_ hon hoff
                    refine ⟨_, rfl, fun K hK => ?_⟩
                    have e39 : a.tmps[39]? = some (.bool false) := by rw [ha]; exact putSel_on (e := (9, 39, .bool false)) 8 rfl rfl (hon 9 (by kernel_rfl)) rfl
                    have e38 : a.tmps[38]? = some (.bool (t192 == (rd y193 t183))) := by rw [ha]; exact putSel_on (e := (8, 38, .bool (t192 == (rd y193 t183)))) 7 rfl rfl (hon 8 (by kernel_rfl)) rfl
                    replace ha := Aside0.mk ha
                    have BK182 := Aside0.mk Q_BK182
                    have BK189 := Aside0.mk Q_BK189
                    have HB := Aside0.mk Q_HB
                    have HO195 := Aside0.mk (Q_HO195 (hon 3 (by kernel_rfl)))
                    have HA_HO195 := Aside0.mk (Q_HA_HO195 (hon 3 (by kernel_rfl)))
                    refine value_ (w1 := w') (v := .bool (!false)) (wanted_on rfl rfl rfl (e38.trans (by first | rfl | (simp [*]; done)))) rfl ?_ ?_
                    · go_simp
                      (try simp only [i64_w])
                      try rfl
                    refine hK.out _ _ ⟨v194, adz_v194, m5_, (by rw [ha.out]; exact putSel_upk 9 hb_ rfl rfl rfl), Q_BK182, Q_BK189, Q_HB, Q_HO195, Q_HA_HO195, Q_X5_⟩
                  refine steps_cons ?_ ?_
                  · rintro b a w' ⟨v194, adz_v194, m5_, ha, Q_BK182, Q_BK189, Q_HB, Q_HO195, Q_HA_HO195, Q_X5_⟩ hb_ hon hoff
                    refine ⟨_, rfl, fun K hK => ?_⟩
                    have e40 : a.tmps[40]? = some (.bool (!false)) := by rw [ha]; exact putSel_on (e := (10, 40, .bool (!false))) 9 rfl rfl (hon 10 (by kernel_rfl)) rfl
                    have e38 : a.tmps[38]? = some (.bool (t192 == (rd y193 t183))) := by rw [ha]; exact putSel_on (e := (8, 38, .bool (t192 == (rd y193 t183)))) 7 rfl rfl (hon 8 (by kernel_rfl)) rfl
                    replace ha := Aside0.mk ha
                    have BK182 := Aside0.mk Q_BK182
                    have BK189 := Aside0.mk Q_BK189
                    have HB := Aside0.mk Q_HB
                    have HO195 := Aside0.mk (Q_HO195 (hon 3 (by kernel_rfl)))
                    have HA_HO195 := Aside0.mk (Q_HA_HO195 (hon 3 (by kernel_rfl)))
                    refine value_ (w1 := w') (v := .bool (!false)) (wanted_on rfl rfl rfl (e38.trans (by first | rfl | (simp [*]; done)))) rfl ?_ ?_
                    · go_simp
                      (try simp only [i64_w])
                      try rfl
                    refine hK.out _ _ ⟨v194, adz_v194, m5_, (by rw [ha.out]; exact putSel_upk 10 hb_ rfl rfl rfl), Q_BK182, Q_BK189, Q_HB, Q_HO195, Q_HA_HO195, Q_X5_⟩
                  refine steps_cons ?_ ?_
                  · rintro b a w' ⟨v194, adz_v194, m5_, ha, Q_BK182, Q_BK189, Q_HB, Q_HO195, Q_HA_HO195, Q_X5_⟩ hb_ hon hoff
                    refine ⟨_, rfl, fun K hK => ?_⟩
                    have e41 : a.tmps[41]? = some (.bool (!false)) := by rw [ha]; exact putSel_on (e := (11, 41, .bool (!false))) 10 rfl rfl (hon 11 (by kernel_rfl)) rfl
                    replace ha := Aside0.mk ha
                    have BK182 := Aside0.mk Q_BK182
                    have BK189 := Aside0.mk Q_BK189
                    have HB := Aside0.mk Q_HB
                    have HO195 := Aside0.mk (Q_HO195 (hon 3 (by kernel_rfl)))
                    have HA_HO195 := Aside0.mk (Q_HA_HO195 (hon 3 (by kernel_rfl)))
                    refine off_ (wanted_off rfl rfl rfl (e41.trans (by first | rfl | (simp [*]; done)))) ?_
                    refine hK.out _ _ ⟨v194, adz_v194, m5_, (by rw [ha.out]; exact putSel_upk 11 hb_ rfl rfl rfl), Q_BK182, Q_BK189, Q_HB, Q_HO195, Q_HA_HO195, Q_X5_⟩
                  refine steps_cons ?_ ?_
                  · rintro b a w' ⟨v194, adz_v194, m5_, ha, Q_BK182, Q_BK189, Q_HB, Q_HO195, Q_HA_HO195, Q_X5_⟩ hb_ hon hoff
                    refine ⟨_, rfl, fun K hK => ?_⟩
                    have e41 : a.tmps[41]? = some (.bool (!false)) := by rw [ha]; exact putSel_on (e := (11, 41, .bool (!false))) 10 rfl rfl (hon 11 (by kernel_rfl)) rfl
                    replace ha := Aside0.mk ha
                    have BK182 := Aside0.mk Q_BK182
                    have BK189 := Aside0.mk Q_BK189
                    have HB := Aside0.mk Q_HB
                    have HO195 := Aside0.mk (Q_HO195 (hon 3 (by kernel_rfl)))
                    have HA_HO195 := Aside0.mk (Q_HA_HO195 (hon 3 (by kernel_rfl)))
                    refine off_ (wanted_off rfl rfl rfl (e41.trans (by first | rfl | (simp [*]; done)))) ?_
                    refine hK.out _ _ ⟨v194, adz_v194, m5_, (by rw [ha.out]; exact putSel_upk 12 hb_ rfl rfl rfl), Q_BK182, Q_BK189, Q_HB, Q_HO195, Q_HA_HO195, Q_X5_⟩
                  refine steps_cons ?_ ?_
                  · rintro b a w' ⟨v194, adz_v194, m5_, ha, Q_BK182, Q_BK189, Q_HB, Q_HO195, Q_HA_HO195, Q_X5_⟩ hb_ hon hoff
                    refine ⟨_, rfl, fun K hK => ?_⟩
                    have e41 : a.tmps[41]? = some (.bool (!false)) := by rw [ha]; exact putSel_on (e := (11, 41, .bool (!false))) 10 rfl rfl (hon 11 (by kernel_rfl)) rfl
                    replace ha := Aside0.mk ha
                    have BK182 := Aside0.mk Q_BK182
                    have BK189 := Aside0.mk Q_BK189
                    have HB := Aside0.mk Q_HB
                    have HO195 := Aside0.mk (Q_HO195 (hon 3 (by kernel_rfl)))
                    have HA_HO195 := Aside0.mk (Q_HA_HO195 (hon 3 (by kernel_rfl)))
                    refine off_ (wanted_off rfl rfl rfl (e41.trans (by first | rfl | (simp [*]; done)))) ?_
                    refine hK.out _ _ ⟨v194, adz_v194, m5_, (by rw [ha.out]; exact putSel_upk 13 hb_ rfl rfl rfl), Q_BK182, Q_BK189, Q_HB, Q_HO195, Q_HA_HO195, Q_X5_⟩
                  refine steps_cons ?_ ?_
                  · rintro b a w' ⟨v194, adz_v194, m5_, ha, Q_BK182, Q_BK189, Q_HB, Q_HO195, Q_HA_HO195, Q_X5_⟩ hb_ hon hoff
                    refine ⟨_, rfl, fun K hK => ?_⟩
                    have e41 : a.tmps[41]? = some (.bool (!false)) := by rw [ha]; exact putSel_on (e := (11, 41, .bool (!false))) 10 rfl rfl (hon 11 (by kernel_rfl)) rfl
                    replace ha := Aside0.mk ha
                    have BK182 := Aside0.mk Q_BK182
                    have BK189 := Aside0.mk Q_BK189
                    have HB := Aside0.mk Q_HB
                    have HO195 := Aside0.mk (Q_HO195 (hon 3 (by kernel_rfl)))
                    have HA_HO195 := Aside0.mk (Q_HA_HO195 (hon 3 (by kernel_rfl)))
                    refine off_ (wanted_off rfl rfl rfl (e41.trans (by first | rfl | (simp [*]; done)))) ?_
                    refine hK.out _ _ ⟨v194, adz_v194, m5_, (by rw [ha.out]; exact putSel_upk 14 hb_ rfl rfl rfl), Q_BK182, Q_BK189, Q_HB, Q_HO195, Q_HA_HO195, Q_X5_⟩
                  refine steps_cons ?_ ?_
                  · rintro b a w' ⟨v194, adz_v194, m5_, ha, Q_BK182, Q_BK189, Q_HB, Q_HO195, Q_HA_HO195, Q_X5_⟩ hb_ hon hoff
                    refine ⟨_, rfl, fun K hK => ?_⟩
                    have e41 : a.tmps[41]? = some (.bool (!false)) := by rw [ha]; exact putSel_on (e := (11, 41, .bool (!false))) 10 rfl rfl (hon 11 (by kernel_rfl)) rfl
                    replace ha := Aside0.mk ha
                    have BK182 := Aside0.mk Q_BK182
                    have BK189 := Aside0.mk Q_BK189
                    have HB := Aside0.mk Q_HB
                    have HO195 := Aside0.mk (Q_HO195 (hon 3 (by kernel_rfl)))
                    have HA_HO195 := Aside0.mk (Q_HA_HO195 (hon 3 (by kernel_rfl)))
                    refine off_ (wanted_off rfl rfl rfl (e41.trans (by first | rfl | (simp [*]; done)))) ?_
                    refine hK.out _ _ ⟨v194, adz_v194, m5_, (by rw [ha.out]; exact putSel_upk 15 hb_ rfl rfl rfl), Q_BK182, Q_BK189, Q_HB, Q_HO195, Q_HA_HO195, Q_X5_⟩
                  refine steps_cons ?_ ?_
                  · rintro b a w' ⟨v194, adz_v194, m5_, ha, Q_BK182, Q_BK189, Q_HB, Q_HO195, Q_HA_HO195, Q_X5_⟩ hb_ hon hoff
                    refine ⟨_, rfl, fun K hK => ?_⟩
                    have e41 : a.tmps[41]? = some (.bool (!false)) := by rw [ha]; exact putSel_on (e := (11, 41, .bool (!false))) 10 rfl rfl (hon 11 (by kernel_rfl)) rfl
                    replace ha := Aside0.mk ha
                    have BK182 := Aside0.mk Q_BK182
                    have BK189 := Aside0.mk Q_BK189
                    have HB := Aside0.mk Q_HB
                    have HO195 := Aside0.mk (Q_HO195 (hon 3 (by kernel_rfl)))
                    have HA_HO195 := Aside0.mk (Q_HA_HO195 (hon 3 (by kernel_rfl)))
                    refine off_ (wanted_off rfl rfl rfl (e41.trans (by first | rfl | (simp [*]; done)))) ?_
                    refine hK.out _ _ ⟨v194, adz_v194, m5_, (by rw [ha.out]; exact putSel_upk 16 hb_ rfl rfl rfl), Q_BK182, Q_BK189, Q_HB, Q_HO195, Q_HA_HO195, Q_X5_⟩
                  refine steps_cons ?_ ?_
                  · rintro b a w' ⟨v194, adz_v194, m5_, ha, Q_BK182, Q_BK189, Q_HB, Q_HO195, Q_HA_HO195, Q_X5_⟩ hb_ hon hoff
                    refine ⟨_, rfl, fun K hK => ?_⟩
                    have e41 : a.tmps[41]? = some (.bool (!false)) := by rw [ha]; exact putSel_on (e := (11, 41, .bool (!false))) 10 rfl rfl (hon 11 (by kernel_rfl)) rfl
                    replace ha := Aside0.mk ha
                    have BK182 := Aside0.mk Q_BK182
                    have BK189 := Aside0.mk Q_BK189
                    have HB := Aside0.mk Q_HB
                    have HO195 := Aside0.mk (Q_HO195 (hon 3 (by kernel_rfl)))
                    have HA_HO195 := Aside0.mk (Q_HA_HO195 (hon 3 (by kernel_rfl)))
                    refine off_ (wanted_off rfl rfl rfl (e41.trans (by first | rfl | (simp [*]; done)))) ?_
                    refine hK.out _ _ ⟨v194, adz_v194, m5_, (by rw [ha.out]; exact putSel_upk 17 hb_ rfl rfl rfl), Q_BK182, Q_BK189, Q_HB, Q_HO195, Q_HA_HO195, Q_X5_⟩
                  refine steps_cons ?_ ?_
                  · rintro b a w' ⟨v194, adz_v194, m5_, ha, Q_BK182, Q_BK189, Q_HB, Q_HO195, Q_HA_HO195, Q_X5_⟩ hb_ hon hoff
                    refine ⟨_, rfl, fun K hK => ?_⟩
                    have e41 : a.tmps[41]? = some (.bool (!false)) := by rw [ha]; exact putSel_on (e := (11, 41, .bool (!false))) 10 rfl rfl (hon 11 (by kernel_rfl)) rfl
                    have e48 : a.tmps[48]? = some (undef) := by rw [ha]; exact putSel_on (e := (18, 48, undef)) 17 rfl rfl (hon 18 (by kernel_rfl)) rfl
                    have e38 : a.tmps[38]? = some (.bool (t192 == (rd y193 t183))) := by rw [ha]; exact putSel_on (e := (8, 38, .bool (t192 == (rd y193 t183)))) 7 rfl rfl (hon 8 (by kernel_rfl)) rfl
                    replace ha := Aside0.mk ha
                    have BK182 := Aside0.mk Q_BK182
                    have BK189 := Aside0.mk Q_BK189
                    have HB := Aside0.mk Q_HB
                    have HO195 := Aside0.mk (Q_HO195 (hon 3 (by kernel_rfl)))
                    have HA_HO195 := Aside0.mk (Q_HA_HO195 (hon 3 (by kernel_rfl)))
                    refine value_ (w1 := w') (v := .bool true) (wanted_on rfl rfl rfl (e38.trans (by first | rfl | (simp [*]; done)))) rfl ?_ ?_
                    · go_simp
                      (try simp only [i64_w])
                      try rfl
                    refine hK.out _ _ ⟨v194, adz_v194, m5_, (by rw [ha.out]; exact putSel_upk 18 hb_ rfl rfl rfl), Q_BK182, Q_BK189, Q_HB, Q_HO195, Q_HA_HO195, Q_X5_⟩
                  refine steps_cons ?_ ?_
                  · rintro b a w' ⟨v194, adz_v194, m5_, ha, Q_BK182, Q_BK189, Q_HB, Q_HO195, Q_HA_HO195, Q_X5_⟩ hb_ hon hoff
                    refine ⟨_, rfl, fun K hK => ?_⟩
                    have e38 : a.tmps[38]? = some (.bool (t192 == (rd y193 t183))) := by rw [ha]; exact putSel_on (e := (8, 38, .bool (t192 == (rd y193 t183)))) 7 rfl rfl (hon 8 (by kernel_rfl)) rfl
                    have e49 : a.tmps[49]? = some (.bool true) := by rw [ha]; exact putSel_on (e := (19, 49, .bool true)) 18 rfl rfl (hon 19 (by kernel_rfl)) rfl
                    replace ha := Aside0.mk ha
                    have BK182 := Aside0.mk Q_BK182
                    have BK189 := Aside0.mk Q_BK189
                    have HB := Aside0.mk Q_HB
                    have HO195 := Aside0.mk (Q_HO195 (hon 3 (by kernel_rfl)))
                    have HA_HO195 := Aside0.mk (Q_HA_HO195 (hon 3 (by kernel_rfl)))
                    refine value_ (w1 := w') (v := .bool true) (by rfl) rfl ?_ ?_
                    · go_simp
                      (try simp only [i64_w])
                      try rfl
                    refine hK.out _ _ ⟨v194, adz_v194, m5_, (by rw [ha.out]; exact putSel_upk 19 hb_ rfl rfl rfl), Q_BK182, Q_BK189, Q_HB, Q_HO195, Q_HA_HO195, Q_X5_⟩
                  refine steps_cons ?_ ?_
                  · rintro b a w' ⟨v194, adz_v194, m5_, ha, Q_BK182, Q_BK189, Q_HB, Q_HO195, Q_HA_HO195, Q_X5_⟩ hb_ hon hoff
                    refine ⟨_, rfl, fun K hK => ?_⟩
                    have e50 : a.tmps[50]? = some (.bool true) := by rw [ha]; exact putSel_on (e := (20, 50, .bool true)) 19 rfl rfl (hon 20 (by kernel_rfl)) rfl
                    replace ha := Aside0.mk ha
                    have BK182 := Aside0.mk Q_BK182
                    have BK189 := Aside0.mk Q_BK189
                    have HB := Aside0.mk Q_HB
                    have HO195 := Aside0.mk (Q_HO195 (hon 3 (by kernel_rfl)))
                    have HA_HO195 := Aside0.mk (Q_HA_HO195 (hon 3 (by kernel_rfl)))
                    refine value_ (w1 := w') (v := .bool true) (by rfl) rfl ?_ ?_
                    · go_simp
                      (try simp only [i64_w])
                      try rfl
                    refine hK.out _ _ ⟨v194, adz_v194, m5_, (by rw [ha.out]; exact putSel_upk 20 hb_ rfl rfl rfl), Q_BK182, Q_BK189, Q_HB, Q_HO195, Q_HA_HO195, Q_X5_⟩
                  exact steps_nil
                rintro b a w75 hall ⟨v194, adz_v194, m5_, ha, Q_BK182, Q_BK189, Q_HB, Q_HO195, Q_HA_HO195, Q_X5_⟩
                clear BK182 BK189 HB
                have hb0_ := hall 0 (by kernel_rfl)
                have hb1_ := hall 1 (by kernel_rfl)
                have hb2_ := hall 2 (by kernel_rfl)
                have hb3_ := hall 3 (by kernel_rfl)
                have hb5_ := hall 5 (by kernel_rfl)
                have hb6_ := hall 6 (by kernel_rfl)
                have hb7_ := hall 7 (by kernel_rfl)
                have hb8_ := hall 8 (by kernel_rfl)
                have hb9_ := hall 9 (by kernel_rfl)
                have hb10_ := hall 10 (by kernel_rfl)
                have hb11_ := hall 11 (by kernel_rfl)
                have hb12_ := hall 12 (by kernel_rfl)
                have hb13_ := hall 13 (by kernel_rfl)
                have hb14_ := hall 14 (by kernel_rfl)
                have hb15_ := hall 15 (by kernel_rfl)
                have hb16_ := hall 16 (by kernel_rfl)
                have hb17_ := hall 17 (by kernel_rfl)
                have hb18_ := hall 18 (by kernel_rfl)
                have hb19_ := hall 19 (by kernel_rfl)
                have hb20_ := hall 20 (by kernel_rfl)
                have hb21_ := hall 21 (by kernel_rfl)
                subst ha
                obtain rfl := Q_X5_ hb5_
                simp only [putSel, hb0_, hb1_, hb2_, hb3_, hb5_, hb6_, hb7_, hb8_, hb9_, hb10_, hb11_, hb12_, hb13_, hb14_, hb15_, hb16_, hb17_, hb18_, hb19_, hb20_, hb21_, if_true, Act.put, List.setIfInBounds_toArray, List.set_cons_zero, List.set_cons_succ]
                have BK182 := Aside0.mk Q_BK182
                clear Q_BK182
                have BK189 := Aside0.mk Q_BK189
                clear Q_BK189
                have HB := Aside0.mk Q_HB
                clear Q_HB
                have HO195 := Aside0.mk (Q_HO195 hb3_)
                clear Q_HO195
                have HA_HO195 := Aside0.mk (Q_HA_HO195 hb3_)
                clear Q_HA_HO195
                clear hall hb0_ hb1_ hb2_ hb3_ hb5_ hb6_ hb7_ hb8_ hb9_ hb10_ hb11_ hb12_ hb13_ hb14_ hb15_ hb16_ hb17_ hb18_ hb19_ hb20_ hb21_
                obtain ⟨co76, eo76⟩ := HA_HO195.out
                clear HA_HO195
                subst eo76
                try go_wp2
                go_ret
                exact ⟨by first | rfl | (simp [errW_none, errW_some] <;> rfl) | (simp [*, errW_none, errW_some] <;> rfl), by repeat (first | (with_reducible first | exact HB.out | apply below_alloc | apply pw_below_drewN | apply below_drew1 | refine below_set ?_ GE182.out | refine below_set ?_ GE189.out) | exact HB.out)⟩
            · rw [if_neg c28] at H
              have c28b0 : (t192 == (rd y193 t183)) = false := beq_eq_false_iff_ne.mpr c28
              have c28b1 : (t192 != (rd y193 t183)) = true := bne_iff_ne.mpr c28
              exact absurd ((Option.some.inj H).trans hr) (by simp)
          · rw [if_neg c27] at H
            exact absurd H (by simp)
        · rw [if_neg c26] at H
          exact absurd H (by simp)
    · rw [if_neg c6] at H
      have c6b0 : (t183 == t184) = false := beq_eq_false_iff_ne.mpr c6
      have c6b1 : (t183 != t184) = true := bne_iff_ne.mpr c6
      exact absurd ((Option.some.inj H).trans hr) (by simp)

/-- THE ONE PURE STATEMENT of laws_FnKindOf: yours. -/
def laws_FnKindOf.Pure : Prop := ∀ (l0 : List Int), l0.length ≤ maxLen → l0.length * 1 ≤ 140737488351232 → (∀ x ∈ l0, (Lit.int .u8 x).wf = true) → ∃ k, laws_FnKindOf.f k l0 = some true
theorem laws_FnKindOf.walk (P : laws_FnKindOf.Pure) (a0 : Option Addr) (len0 cap0 : Nat) (z0 : List Int) (w : World) (w0 : (a0 = none ∧ len0 = 0 ∧ cap0 = 0 ∧ z0 = []) ∨ ∃ x, a0 = some x ∧ len0 ≤ cap0 ∧ cap0 ≤ maxLen ∧ z0.length = cap0 ∧ (∀ i, i < z0.length → w.cell? (x.add i) = some (.int .u8 (z0.getD i 0))) ∧ ∀ n ∈ z0, (Lit.int .u8 n).wf = true) (y0 : len0 * 1 ≤ 140737488351232) :
    Calls Try.prog 6 #[.slice a0 len0 cap0] w fun e w' => e = .returned (.bool true) ∧ Below w.heap.size w w' := by
  obtain ⟨l0, rfl, hr0, hm0, hw0, hc0⟩ := ReadsInt.ofRowC w0
  obtain ⟨k, h⟩ := P l0 hm0 y0 hw0
  refine (laws_FnKindOf.calls k _ _ l0 true rfl w (Kd.C_of_reads (d := (0 : Int)) (h1 := fun _ => rfl) hr0) hc0 h).mono ?_
  rintro e w' ⟨rfl, hd⟩
  exact ⟨rfl, hd⟩

end Go.Proofs.Ytmckeejjddablaa.PFnKindOf

