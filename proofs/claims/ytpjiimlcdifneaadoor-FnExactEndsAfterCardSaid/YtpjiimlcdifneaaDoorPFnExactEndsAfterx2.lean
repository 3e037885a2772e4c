/- Walks of functions that the law reaches (lines that the kit's print wrote, over contracts of this session's own). -/
import Derived.Test.YtpjiimlcdifneaaDoorPFnExactEndsAfterx0
import Derived.Test.YtpjiimlcdifneaaDoorPFnExactEndsAfterx1
namespace Go.Proofs.YtpjiimlcdifneaaDoor.PFnExactEndsAfter
open Go.RowKit Go.Proofs.YtpjiimlcdifneaaDoorW.PrintWords Go.Proofs.YtpjiimlcdifneaaDoorW.PrintLast Go.Proofs.YtpjiimlcdifneaaDoorW.PrintMore
attribute [local go_sem] max2_int min2_int max_two min_two max_three min_three max_four min_four   -- for this text's walks alone
set_option linter.unusedVariables false
set_option linter.unusedSimpArgs false
theorem kbq2 {Q P : Prop} (q : Q) (h : Q → P := by intro q_; (with_reducible repeat (first | refine blk_drewN ?_ _ | refine blk_drew ?_ | refine blk_alloc ?_ _)); exact q_) : P := h q
theorem krq2 {Q P : Prop} (q : Q) (h : Q → P := by intro q_; (with_reducible repeat (first | apply Kd.R_alloc | apply Kd.R_drewN | apply Kd.R_drew)); exact q_) : P := h q
theorem lb0q2 {Q P : Prop} (q : Q)  (h : Q → P := by intro q_ ; repeat (first | (with_reducible first | exact q_ | apply below_alloc | apply pw_below_drewN | apply below_drew1) | exact q_)) : P := h q 
theorem lb1q2 {Q P : Prop} {N0 : Prop} (q : Q) (n0 : N0) (h : Q → N0 → P := by intro q_ m0_; repeat (first | (with_reducible first | exact q_ | apply below_alloc | apply pw_below_drewN | apply below_drew1 | refine below_set ?_ m0_) | exact q_)) : P := h q n0

/-! ### impl_EndsAfter: function 24 -/
def pk (a b c d j : Int) : Int := if j = 0 then a else if j = 1 then b else if j = 2 then c else d
mutual
def impl_EndsAfter.l0 : Nat → ByteArray → Int → Int → Int → Int → Int → Int → Option (List Int)
  | 0, _, _, _, _, _, _, _ => none
  | k + 1, x0, x14, x15, x104000, x104001, x104002, x104003 => if x15 < x14 then (if 0 ≤ x15 then (if x15 < (x0.size : Int) then (if (bt x0 x15) = 82 then (impl_EndsAfter.l0 k x0 x14 (wrap64 (x15 + 1)) x104002 x104000 x104003 x104001) else (impl_EndsAfter.l0 k x0 x14 (wrap64 (x15 + 1)) x104000 x104003 x104002 x104001)) else (none)) else (none)) else (impl_EndsAfter.l1 k (([] : List Int)) 0 x104000 x104001 x104002 x104003)
def impl_EndsAfter.l1 : Nat → List Int → Int → Int → Int → Int → Int → Option (List Int)
  | 0, _, _, _, _, _, _ => none
  | k + 1, x5, x40, x104000, x104001, x104002, x104003 => if x40 < 4 then (if 0 ≤ x40 then (impl_EndsAfter.l2 k x5 x40 (pk x104000 x104001 x104002 x104003 x40) x40 0 x104000 x104001 x104002 x104003) else none) else (some x5)
def impl_EndsAfter.l2 : Nat → List Int → Int → Int → Int → Int → Int → Int → Int → Int → Option (List Int)
  | 0, _, _, _, _, _, _, _, _, _ => none
  | k + 1, x5, x6, x7, x40, x44, x104000, x104001, x104002, x104003 => if x44 < 4 then (if 0 ≤ x44 then (if x44 = x6 then (impl_EndsAfter.l2 k x5 x6 x7 x40 (wrap64 (x44 + 1)) x104000 x104001 x104002 x104003) else (if (pk x104000 x104001 x104002 x104003 x44) = x7 then (if x5.length < 17592186044416 then (impl_EndsAfter.l2 k (x5 ++ [x44]) x6 x7 x40 (wrap64 (x44 + 1)) x104000 x104001 x104002 x104003) else (none)) else (impl_EndsAfter.l2 k x5 x6 x7 x40 (wrap64 (x44 + 1)) x104000 x104001 x104002 x104003))) else none) else (impl_EndsAfter.l1 k x5 (wrap64 (x40 + 1)) x104000 x104001 x104002 x104003)
end
def impl_EndsAfter.f (k : Nat) (a0 : ByteArray) : Option (List Int) := (impl_isDance.f a0).bind fun t102 => (if t102 = true then (impl_EndsAfter.l0 k a0 (a0.size : Int) 0 0 0 1 1) else (some ([] : List Int)))
theorem impl_EndsAfter.mono_l : ∀ k, (∀ y0 y1 y2 y3 y4 y5 y6, LeO (impl_EndsAfter.l0 k y0 y1 y2 y3 y4 y5 y6) (impl_EndsAfter.l0 (k + 1) y0 y1 y2 y3 y4 y5 y6)) ∧ (∀ y0 y1 y2 y3 y4 y5, LeO (impl_EndsAfter.l1 k y0 y1 y2 y3 y4 y5) (impl_EndsAfter.l1 (k + 1) y0 y1 y2 y3 y4 y5)) ∧ (∀ y0 y1 y2 y3 y4 y5 y6 y7 y8, LeO (impl_EndsAfter.l2 k y0 y1 y2 y3 y4 y5 y6 y7 y8) (impl_EndsAfter.l2 (k + 1) y0 y1 y2 y3 y4 y5 y6 y7 y8))
  | 0 => ⟨fun _ _ _ _ _ _ _ r h => by simp [impl_EndsAfter.l0] at h, fun _ _ _ _ _ _ r h => by simp [impl_EndsAfter.l1] at h, fun _ _ _ _ _ _ _ _ _ r h => by simp [impl_EndsAfter.l2] at h⟩
  | k + 1 => by
    obtain ⟨ih0, ih1, ih2⟩ := impl_EndsAfter.mono_l k
    refine ⟨?_, ?_, ?_⟩
    · intro y0 y1 y2 y3 y4 y5 y6
      unfold impl_EndsAfter.l0
      repeat' first
      | (with_reducible exact ih0 _ _ _ _ _ _ _)
      | (with_reducible exact ih1 _ _ _ _ _ _)
      | (with_reducible exact ih2 _ _ _ _ _ _ _ _ _)
      | (with_reducible exact LeO.refl _)
      | (with_reducible exact LeO.none _)
      | (with_reducible refine LeO.ite ?_ ?_)
      | (with_reducible refine LeO.bind ?_ (fun _ => ?_))
      | exact ih0 _ _ _ _ _ _ _
      | exact ih1 _ _ _ _ _ _
      | exact ih2 _ _ _ _ _ _ _ _ _
      | exact LeO.none _
      | refine LeO.ite ?_ ?_
      | refine LeO.bind ?_ (fun _ => ?_)
    · intro y0 y1 y2 y3 y4 y5
      unfold impl_EndsAfter.l1
      repeat' first
      | (with_reducible exact ih0 _ _ _ _ _ _ _)
      | (with_reducible exact ih1 _ _ _ _ _ _)
      | (with_reducible exact ih2 _ _ _ _ _ _ _ _ _)
      | (with_reducible exact LeO.refl _)
      | (with_reducible exact LeO.none _)
      | (with_reducible refine LeO.ite ?_ ?_)
      | (with_reducible refine LeO.bind ?_ (fun _ => ?_))
      | exact ih0 _ _ _ _ _ _ _
      | exact ih1 _ _ _ _ _ _
      | exact ih2 _ _ _ _ _ _ _ _ _
      | exact LeO.none _
      | refine LeO.ite ?_ ?_
      | refine LeO.bind ?_ (fun _ => ?_)
    · intro y0 y1 y2 y3 y4 y5 y6 y7 y8
      unfold impl_EndsAfter.l2
      repeat' first
      | (with_reducible exact ih0 _ _ _ _ _ _ _)
      | (with_reducible exact ih1 _ _ _ _ _ _)
      | (with_reducible exact ih2 _ _ _ _ _ _ _ _ _)
      | (with_reducible exact LeO.refl _)
      | (with_reducible exact LeO.none _)
      | (with_reducible refine LeO.ite ?_ ?_)
      | (with_reducible refine LeO.bind ?_ (fun _ => ?_))
      | exact ih0 _ _ _ _ _ _ _
      | exact ih1 _ _ _ _ _ _
      | exact ih2 _ _ _ _ _ _ _ _ _
      | exact LeO.none _
      | refine LeO.ite ?_ ?_
      | refine LeO.bind ?_ (fun _ => ?_)
theorem impl_EndsAfter.mono : ∀ a0 k, LeO (impl_EndsAfter.f k a0) (impl_EndsAfter.f (k + 1) a0) := by
  intro a0 k
  obtain ⟨ih0, ih1, ih2⟩ := impl_EndsAfter.mono_l k
  unfold impl_EndsAfter.f
  repeat' first
      | (with_reducible exact ih0 _ _ _ _ _ _ _)
      | (with_reducible exact ih1 _ _ _ _ _ _)
      | (with_reducible exact ih2 _ _ _ _ _ _ _ _ _)
      | (with_reducible exact LeO.refl _)
      | (with_reducible exact LeO.none _)
      | (with_reducible refine LeO.ite ?_ ?_)
      | (with_reducible refine LeO.bind ?_ (fun _ => ?_))
      | exact ih0 _ _ _ _ _ _ _
      | exact ih1 _ _ _ _ _ _
      | exact ih2 _ _ _ _ _ _ _ _ _
      | exact LeO.none _
      | refine LeO.ite ?_ ?_
      | refine LeO.bind ?_ (fun _ => ?_)
set_option maxHeartbeats 8000000 in
set_option maxRecDepth 100000 in
theorem impl_EndsAfter.calls (k : Nat) (a0 : ByteArray) (r : List Int) (w : World) (h : impl_EndsAfter.f k a0 = some r) :
  Calls Tryd.prog 24 #[.string a0] w fun e w' => ∃ v0_ : Value, e = .returned (v0_) ∧ Kd.R (Kd.int .i64) 3 w' w.heap.size (fun _ => True) v0_ r ∧ Below w.heap.size w w' := by
 have hu65 := Tryd.underlying54
 have HB := Aside0.mk (Below.refl w.heap.size w)
 have H : ((impl_isDance.f a0).bind fun t102 => (if t102 = true then (impl_EndsAfter.l0 k a0 (a0.size : Int) 0 0 0 1 1) else (some ([] : List Int)))) = some r := h
 clear h
 replace H := Option.bind_eq_some_iff.mp H
 obtain ⟨t102, A20, H⟩ := H
 replace H : (if t102 = true then (impl_EndsAfter.l0 k a0 (a0.size : Int) 0 0 0 1 1) else (some ([] : List Int))) = some r := H
 have A2 := Aside0.mk A20
 clear A20
 by_cases c3 : t102 = true
 ·
  subst c3
  have H1 : (impl_EndsAfter.l0 k a0 (a0.size : Int) 0 0 0 1 1) = some r := by rw [if_pos rfl] at H; exact H
  clear H
  have H := H1
  clear H1
  have H' := Aside0.mk H
  clear H
  go_enter Tryd.func24, Tryd.ntmps24
  go_wp2_with (first | ((with_reducible refine gate_callee (f := 40) rfl ?_); refine goesL_ (some 10) rfl rfl Tryd.func40 (by kernel_rfl) rfl #[.string a0] rfl (by (try simp only [List.map_toArray, List.map_cons, List.map_nil]); first | done | rfl | (simp only [List.length_drop, List.length_take]; rfl)) ?_; (with_reducible refine (impl_isDance.calls a0 true _ A2.out).mono ?_); rintro e w4 ⟨rfl, hb⟩; refine ⟨_, rfl, ?_⟩; have n0_ := Aside0.mk (below_step (lb0q2 HB.out) hb); clear HB; have HB := n0_; clear n0_; (try clear hb); (try clear hb2); (try clear hk); (try clear hi)) | ((with_reducible refine gate_dst (N := 3) rfl ?_); refine box_event ?hg (N := 3) ?hd (cs := #[.int .i64 0, .int .i64 0, .int .i64 0, .int .i64 0]) (t := 54) ?hr ?_; (case hd => rfl); (case hg => rfl); (case hr => first | (go_simp; done) | (go_simp; rfl)); intro gb103 hg w5 hbox hb; have n0_ := Aside0.mk (below_step (lb0q2 HB.out) hb); have n1_ := Aside0.mk (hbox); have n2_ := Aside0.mk ((by rw [hg]; exact (below_size (lb0q2 HB.out)) : w.heap.size ≤ gb103)); have n3_ := Aside0.mk ((by rw [hg]; exact (below_size (lb0q2 HB.out)) : w.heap.size ≤ gb103)); clear HB; have HB := n0_; have BK103 := n1_; have GW103 := n2_; have GE103 := n3_; clear n0_ n1_ n2_ n3_; clear hb hbox hg; have hcz6_0 : w5.cell? ⟨gb103, 0, none⟩ = some (.int .i64 0) := (blk_cell BK103.out 0).trans rfl; have hcz6_1 : w5.cell? ⟨gb103, 1, none⟩ = some (.int .i64 0) := (blk_cell BK103.out 1).trans rfl; have hcz6_2 : w5.cell? ⟨gb103, 2, none⟩ = some (.int .i64 0) := (blk_cell BK103.out 2).trans rfl; have hcz6_3 : w5.cell? ⟨gb103, 3, none⟩ = some (.int .i64 0) := (blk_cell BK103.out 3).trans rfl; have hfz6_0 := blk_frozen BK103.out 0; have hfz6_1 := blk_frozen BK103.out 1; have hfz6_2 := blk_frozen BK103.out 2; have hfz6_3 := blk_frozen BK103.out 3))
  go_loopg [15] k (fun kq v15 w' => ∃ (x15_1 : Int) (x104000_1 : Int) (x104001_1 : Int) (x104002_1 : Int) (x104003_1 : Int), v15 = .int .i64 x15_1 ∧ Aside0 (impl_EndsAfter.l0 kq a0 (a0.size : Int) x15_1 x104000_1 x104001_1 x104002_1 x104003_1 = some r) ∧ Aside0 (kq ≤ k) ∧ Aside0 (w'.heap[gb103]? = some (.cells #[.int .i64 x104000_1, .int .i64 x104001_1, .int .i64 x104002_1, .int .i64 x104003_1] 54 (0, 0))) ∧ Aside0 (Below w.heap.size w w'))
  case atStart => exact ⟨(0), (0), (0), (1), (1), (by first | rfl | (simp; done) | (simp [*]; done)), H', ⟨Nat.le_refl _⟩, ⟨by (with_reducible repeat (first | refine blk_drewN ?_ _ | refine blk_drew ?_ | refine blk_alloc ?_ _)); refine blk_put (cs := #[.int .i64 0, .int .i64 0, .int .i64 1, .int .i64 0]) ?_ 3 _ rfl; (with_reducible repeat (first | refine blk_drewN ?_ _ | refine blk_drew ?_ | refine blk_alloc ?_ _)); refine blk_put (cs := #[.int .i64 0, .int .i64 0, .int .i64 0, .int .i64 0]) ?_ 2 _ rfl; (with_reducible repeat (first | refine blk_drewN ?_ _ | refine blk_drew ?_ | refine blk_alloc ?_ _)); refine blk_put (cs := #[.int .i64 0, .int .i64 0, .int .i64 0, .int .i64 0]) ?_ 1 _ rfl; (with_reducible repeat (first | refine blk_drewN ?_ _ | refine blk_drew ?_ | refine blk_alloc ?_ _)); refine blk_put (cs := #[.int .i64 0, .int .i64 0, .int .i64 0, .int .i64 0]) ?_ 0 _ rfl; (with_reducible repeat (first | refine blk_drewN ?_ _ | refine blk_drew ?_ | refine blk_alloc ?_ _)); exact BK103.out⟩, ⟨lb1q2 HB.out GE103.out⟩⟩
  case round =>
   clear H'; (try clear p2); (try clear c3); (try clear c5); (try clear hcz6_0); (try clear hcz6_1); (try clear hcz6_2); (try clear hcz6_3); (try clear hfz6_0); (try clear hfz6_1); (try clear hfz6_2); (try clear hfz6_3)
   obtain ⟨x15_1, x104000_1, x104001_1, x104002_1, x104003_1, rfl, HA, HK1, BK103, HB⟩ := hrel
   cases gk with
   | zero => exact absurd HA.out (by simp [impl_EndsAfter.l0])
   | succ k1 =>
    have H := HA.out
    clear HA
    simp only [impl_EndsAfter.l0] at H
    by_cases c7 : x15_1 < (a0.size : Int)
    ·
     rw [if_pos c7] at H
     have c7b0 : decide (x15_1 < (a0.size : Int)) = true := decide_eq_true c7
     clear c7
     by_cases c8 : 0 ≤ x15_1
     ·
      rw [if_pos c8] at H
      have c8b0 : decide (0 ≤ x15_1) = true := decide_eq_true c8
      clear c8
      by_cases c9 : x15_1 < (a0.size : Int)
      ·
       rw [if_pos c9] at H
       have c9b0 : decide (x15_1 < (a0.size : Int)) = true := decide_eq_true c9
       clear c9
       by_cases c11 : (bt a0 x15_1) = 82
       ·
        rw [if_pos c11] at H
        have c11b0 : ((bt a0 x15_1) == 82) = true := beq_iff_eq.mpr c11
        have c11b1 : ((bt a0 x15_1) != 82) = false := bne_eq_false_iff_eq.mpr c11
        clear c11
        have H' := Aside0.mk H
        clear H
        have p10 : 0 ≤ (x15_1 : Int) := of_decide_eq_true (by first | (with_reducible assumption) | assumption)
        have q10 : x15_1 < (a0.size : Int) := of_decide_eq_true (by first | (with_reducible assumption) | assumption)
        have hx10 := bt_at a0 x15_1
        replace p10 := eq_true p10
        replace q10 := eq_true q10
        have hcz12_0 : wr.cell? ⟨gb103, 0, none⟩ = some (.int .i64 x104000_1) := (blk_cell BK103.out 0).trans rfl
        have hcz12_1 : wr.cell? ⟨gb103, 1, none⟩ = some (.int .i64 x104001_1) := (blk_cell BK103.out 1).trans rfl
        have hcz12_2 : wr.cell? ⟨gb103, 2, none⟩ = some (.int .i64 x104002_1) := (blk_cell BK103.out 2).trans rfl
        have hcz12_3 : wr.cell? ⟨gb103, 3, none⟩ = some (.int .i64 x104003_1) := (blk_cell BK103.out 3).trans rfl
        have hfz12_0 := blk_frozen BK103.out 0
        have hfz12_1 := blk_frozen BK103.out 1
        have hfz12_2 := blk_frozen BK103.out 2
        have hfz12_3 := blk_frozen BK103.out 3
        go_wp2
        go_roundg k1
        case measure => have := HK1.out; omega
        case rel => exact ⟨(wrap64 (x15_1 + 1)), (x104002_1), (x104000_1), (x104003_1), (x104001_1), (by first | rfl | (simp; done) | (simp [*]; done)), H', ⟨by have := HK1.out; omega⟩, ⟨by (with_reducible repeat (first | refine blk_drewN ?_ _ | refine blk_drew ?_ | refine blk_alloc ?_ _)); refine blk_put (cs := #[.int .i64 x104002_1, .int .i64 x104000_1, .int .i64 x104003_1, .int .i64 x104003_1]) ?_ 3 _ rfl; (with_reducible repeat (first | refine blk_drewN ?_ _ | refine blk_drew ?_ | refine blk_alloc ?_ _)); refine blk_put (cs := #[.int .i64 x104002_1, .int .i64 x104000_1, .int .i64 x104002_1, .int .i64 x104003_1]) ?_ 2 _ rfl; (with_reducible repeat (first | refine blk_drewN ?_ _ | refine blk_drew ?_ | refine blk_alloc ?_ _)); refine blk_put (cs := #[.int .i64 x104002_1, .int .i64 x104001_1, .int .i64 x104002_1, .int .i64 x104003_1]) ?_ 1 _ rfl; (with_reducible repeat (first | refine blk_drewN ?_ _ | refine blk_drew ?_ | refine blk_alloc ?_ _)); refine blk_put (cs := #[.int .i64 x104000_1, .int .i64 x104001_1, .int .i64 x104002_1, .int .i64 x104003_1]) ?_ 0 _ rfl; (with_reducible repeat (first | refine blk_drewN ?_ _ | refine blk_drew ?_ | refine blk_alloc ?_ _)); exact BK103.out⟩, ⟨lb1q2 HB.out GE103.out⟩⟩
       ·
        rw [if_neg c11] at H
        have c11b0 : ((bt a0 x15_1) == 82) = false := beq_eq_false_iff_ne.mpr c11
        have c11b1 : ((bt a0 x15_1) != 82) = true := bne_iff_ne.mpr c11
        have H' := Aside0.mk H
        clear H
        have p10 : 0 ≤ (x15_1 : Int) := of_decide_eq_true (by first | (with_reducible assumption) | assumption)
        have q10 : x15_1 < (a0.size : Int) := of_decide_eq_true (by first | (with_reducible assumption) | assumption)
        have hx10 := bt_at a0 x15_1
        replace p10 := eq_true p10
        replace q10 := eq_true q10
        have hcz13_0 : wr.cell? ⟨gb103, 0, none⟩ = some (.int .i64 x104000_1) := (blk_cell BK103.out 0).trans rfl
        have hcz13_1 : wr.cell? ⟨gb103, 1, none⟩ = some (.int .i64 x104001_1) := (blk_cell BK103.out 1).trans rfl
        have hcz13_2 : wr.cell? ⟨gb103, 2, none⟩ = some (.int .i64 x104002_1) := (blk_cell BK103.out 2).trans rfl
        have hcz13_3 : wr.cell? ⟨gb103, 3, none⟩ = some (.int .i64 x104003_1) := (blk_cell BK103.out 3).trans rfl
        have hfz13_0 := blk_frozen BK103.out 0
        have hfz13_1 := blk_frozen BK103.out 1
        have hfz13_2 := blk_frozen BK103.out 2
        have hfz13_3 := blk_frozen BK103.out 3
        go_wp2
        go_roundg k1
        case measure => have := HK1.out; omega
        case rel => exact ⟨(wrap64 (x15_1 + 1)), (x104000_1), (x104003_1), (x104002_1), (x104001_1), (by first | rfl | (simp; done) | (simp [*]; done)), H', ⟨by have := HK1.out; omega⟩, ⟨by (with_reducible repeat (first | refine blk_drewN ?_ _ | refine blk_drew ?_ | refine blk_alloc ?_ _)); refine blk_put (cs := #[.int .i64 x104000_1, .int .i64 x104003_1, .int .i64 x104002_1, .int .i64 x104003_1]) ?_ 3 _ rfl; (with_reducible repeat (first | refine blk_drewN ?_ _ | refine blk_drew ?_ | refine blk_alloc ?_ _)); refine blk_put (cs := #[.int .i64 x104000_1, .int .i64 x104001_1, .int .i64 x104002_1, .int .i64 x104003_1]) ?_ 1 _ rfl; (with_reducible repeat (first | refine blk_drewN ?_ _ | refine blk_drew ?_ | refine blk_alloc ?_ _)); exact BK103.out⟩, ⟨lb1q2 HB.out GE103.out⟩⟩
      ·
       rw [if_neg c9] at H
       exact absurd H (by simp)
     ·
      rw [if_neg c8] at H
      exact absurd H (by simp)
    ·
     rw [if_neg c7] at H
     have c7b0 : decide (x15_1 < (a0.size : Int)) = false := decide_eq_false c7
     clear c7
     obtain ⟨y104, hy104⟩ : ∃ y_ : List Int, y_ = (([] : List Int)) := ⟨_, rfl⟩
     replace H : (impl_EndsAfter.l1 k1 y104 0 x104000_1 x104001_1 x104002_1 x104003_1) = some r := by first | (rw [hy104]; with_reducible exact H) | (have H2_ := (Option.bind_some _ _).symm.trans H; rw [hy104]; with_reducible exact H2_) | (have H2_ := (Option.bind_some _ _).symm.trans H; with_reducible exact H2_) | with_reducible exact H | (rw [hy104]; exact H) | exact H
     have Ny104 := Aside0.mk hy104
     clear hy104
     have H' := Aside0.mk H
     clear H
     go_wp2_with (first | ((with_reducible refine gate_dst (N := 38) rfl ?_); refine Kd.R_lit (Kd.int .i64) _ 3 ?hg (N := 38) ?hd (xs := ([] : List Int)) (inner := []) (ok := fun _ => True) (okp := fun _ => True) ?hr ?hp (fun _ hk => hk) trivial (Below.refl _ _) (Nat.le_refl _) (by simp) ?_; (case hd => rfl); (case hg => rfl); (case hr => first | (go_simp; done) | (go_simp; rfl)); (case hp => exact (Reps.none _ _)); intro v105 w14 ho15 hb hg_ hnew_; clear hg_ hnew_; (first | rw [← Ny104.out] at ho15 | (simp only [Int.reduceToNat] at ho15; rw [← Ny104.out] at ho15)); have n0_ := Aside0.mk (Kd.R_lower ho15 (below_size (lb1q2 HB.out GE103.out))); have n1_ := Aside0.mk (blk_below (g := gb103) (o := .cells #[.int .i64 x104000_1, .int .i64 x104001_1, .int .i64 x104002_1, .int .i64 x104003_1] 54 (0, 0)) (kbq2 BK103.out) hb); have n2_ := Aside0.mk (below_step (lb1q2 HB.out GE103.out) hb); clear BK103; clear HB; have HO106 := n0_; have BK103 := n1_; have HB := n2_; clear n0_ n1_ n2_; clear hb ho15; have hcz16_0 : w14.cell? ⟨gb103, 0, none⟩ = some (.int .i64 x104000_1) := (blk_cell BK103.out 0).trans rfl; have hcz16_1 : w14.cell? ⟨gb103, 1, none⟩ = some (.int .i64 x104001_1) := (blk_cell BK103.out 1).trans rfl; have hcz16_2 : w14.cell? ⟨gb103, 2, none⟩ = some (.int .i64 x104002_1) := (blk_cell BK103.out 2).trans rfl; have hcz16_3 : w14.cell? ⟨gb103, 3, none⟩ = some (.int .i64 x104003_1) := (blk_cell BK103.out 3).trans rfl; have hfz16_0 := blk_frozen BK103.out 0; have hfz16_1 := blk_frozen BK103.out 1; have hfz16_2 := blk_frozen BK103.out 2; have hfz16_3 := blk_frozen BK103.out 3))
     go_loopg [5, 40] k1 (fun kq v5 v40 w' => ∃ (x5_2 : List Int) (x40_2 : Int), v40 = .int .i64 x40_2 ∧ Aside0 (impl_EndsAfter.l1 kq x5_2 x40_2 x104000_1 x104001_1 x104002_1 x104003_1 = some r) ∧ Aside0 (kq ≤ k1) ∧ Aside0 (Kd.R (Kd.int .i64) 3 w' w.heap.size (fun _ => True) v5 x5_2) ∧ Aside0 (w'.heap[gb103]? = some (.cells #[.int .i64 x104000_1, .int .i64 x104001_1, .int .i64 x104002_1, .int .i64 x104003_1] 54 (0, 0))) ∧ Aside0 (Below w.heap.size w w'))
     case atStart => exact ⟨(y104), (0), (by first | rfl | (simp; done) | (simp [*]; done)), H', ⟨Nat.le_refl _⟩, ⟨krq2 HO106.out⟩, ⟨kbq2 BK103.out⟩, ⟨lb1q2 HB.out GE103.out⟩⟩
     case round =>
      clear H'; (try clear c1); (try clear p1); (try clear q1); (try clear hx1); (try clear p2); (try clear c3); (try clear c5); (try clear p6); (try clear c7); (try clear c7b0); (try clear c8); (try clear c8b0); (try clear c9); (try clear c9b0); (try clear p10); (try clear q10); (try clear hx10); (try clear c11); (try clear c11b0); (try clear c11b1); (try clear hcz12_0); (try clear hcz12_1); (try clear hcz12_2); (try clear hcz12_3); (try clear hcz13_0); (try clear hcz13_1); (try clear hcz13_2); (try clear hcz13_3); (try clear hcz16_0); (try clear hcz16_1); (try clear hcz16_2); (try clear hcz16_3); (try clear hcz6_0); (try clear hcz6_1); (try clear hcz6_2); (try clear hcz6_3); (try clear hfz12_0); (try clear hfz12_1); (try clear hfz12_2); (try clear hfz12_3); (try clear hfz13_0); (try clear hfz13_1); (try clear hfz13_2); (try clear hfz13_3); (try clear hfz16_0); (try clear hfz16_1); (try clear hfz16_2); (try clear hfz16_3); (try clear hfz6_0); (try clear hfz6_1); (try clear hfz6_2); (try clear hfz6_3); (try clear p10); (try clear p2); (try clear q10)
      obtain ⟨x5_2, x40_2, rfl, HA, HK2, HO_5, BK103, HB⟩ := hrel
      cases gk with
      | zero => exact absurd HA.out (by simp [impl_EndsAfter.l1])
      | succ k2 =>
       have H := HA.out
       clear HA
       simp only [impl_EndsAfter.l1] at H
       by_cases c17 : x40_2 < 4
       ·
        rw [if_pos c17] at H
        have c17b0 : decide (x40_2 < 4) = true := decide_eq_true c17
        by_cases cz17 : 0 ≤ x40_2
        ·
         rw [if_pos cz17] at H
         have hj_ : x40_2 = 0 ∨ x40_2 = 1 ∨ x40_2 = 2 ∨ x40_2 = 3 := by omega
         clear c17 cz17 c17b0
         rcases hj_ with rfl | rfl | rfl | rfl
         ·
          skip
          have ix_ : ∀ w : World, (Instr.index 54 (.agg #[.int .i64 x104000_1, .int .i64 x104001_1, .int .i64 x104002_1, .int .i64 x104003_1]) (.int .i64 0)).run Tryd.prog w = .ok (.int .i64 x104000_1) w := fun _ => by kernel_rfl
          have H' := Aside0.mk H
          clear H
          have hcz18_0 : wr.cell? ⟨gb103, 0, none⟩ = some (.int .i64 x104000_1) := (blk_cell BK103.out 0).trans rfl
          have hcz18_1 : wr.cell? ⟨gb103, 1, none⟩ = some (.int .i64 x104001_1) := (blk_cell BK103.out 1).trans rfl
          have hcz18_2 : wr.cell? ⟨gb103, 2, none⟩ = some (.int .i64 x104002_1) := (blk_cell BK103.out 2).trans rfl
          have hcz18_3 : wr.cell? ⟨gb103, 3, none⟩ = some (.int .i64 x104003_1) := (blk_cell BK103.out 3).trans rfl
          have hfz18_0 := blk_frozen BK103.out 0
          have hfz18_1 := blk_frozen BK103.out 1
          have hfz18_2 := blk_frozen BK103.out 2
          have hfz18_3 := blk_frozen BK103.out 3
          go_wp2
          go_loopg [5, 44] k2 (fun kq v5 v44 w' => ∃ (x5_3 : List Int) (x44_3 : Int), v44 = .int .i64 x44_3 ∧ Aside0 (impl_EndsAfter.l2 kq x5_3 (0 : Int) x104000_1 (0 : Int) x44_3 x104000_1 x104001_1 x104002_1 x104003_1 = some r) ∧ Aside0 (kq ≤ k2) ∧ Aside0 (Kd.R (Kd.int .i64) 3 w' w.heap.size (fun _ => True) v5 x5_3) ∧ Aside0 (w'.heap[gb103]? = some (.cells #[.int .i64 x104000_1, .int .i64 x104001_1, .int .i64 x104002_1, .int .i64 x104003_1] 54 (0, 0))) ∧ Aside0 (Below w.heap.size w w'))
          case atStart => exact ⟨(x5_2), (0), (by first | rfl | (simp; done) | (simp [*]; done)), H', ⟨Nat.le_refl _⟩, ⟨krq2 HO_5.out⟩, ⟨kbq2 BK103.out⟩, ⟨lb1q2 HB.out GE103.out⟩⟩
          case round =>
           clear H'; (try clear c1); (try clear p1); (try clear q1); (try clear hx1); (try clear p2); (try clear c3); (try clear c5); (try clear p6); (try clear c7); (try clear c7b0); (try clear c8); (try clear c8b0); (try clear c9); (try clear c9b0); (try clear p10); (try clear q10); (try clear hx10); (try clear c11); (try clear c11b0); (try clear c11b1); (try clear c17); (try clear c17b0); (try clear hcz12_0); (try clear hcz12_1); (try clear hcz12_2); (try clear hcz12_3); (try clear hcz13_0); (try clear hcz13_1); (try clear hcz13_2); (try clear hcz13_3); (try clear hcz16_0); (try clear hcz16_1); (try clear hcz16_2); (try clear hcz16_3); (try clear hcz18_0); (try clear hcz18_1); (try clear hcz18_2); (try clear hcz18_3); (try clear hcz6_0); (try clear hcz6_1); (try clear hcz6_2); (try clear hcz6_3); (try clear hfz12_0); (try clear hfz12_1); (try clear hfz12_2); (try clear hfz12_3); (try clear hfz13_0); (try clear hfz13_1); (try clear hfz13_2); (try clear hfz13_3); (try clear hfz16_0); (try clear hfz16_1); (try clear hfz16_2); (try clear hfz16_3); (try clear hfz18_0); (try clear hfz18_1); (try clear hfz18_2); (try clear hfz18_3); (try clear hfz6_0); (try clear hfz6_1); (try clear hfz6_2); (try clear hfz6_3); (try clear p1); (try clear p10); (try clear p2); (try clear p6); (try clear q1); (try clear q10)
           obtain ⟨x5_3, x44_3, rfl, HA, HK3, HO_5, BK103, HB⟩ := hrel
           cases gk with
           | zero => exact absurd HA.out (by simp [impl_EndsAfter.l2])
           | succ k3 =>
            have H := HA.out
            clear HA
            simp only [impl_EndsAfter.l2] at H
            by_cases c19 : x44_3 < 4
            ·
             rw [if_pos c19] at H
             have c19b0 : decide (x44_3 < 4) = true := decide_eq_true c19
             by_cases cz19 : 0 ≤ x44_3
             ·
              rw [if_pos cz19] at H
              have hj_ : x44_3 = 0 ∨ x44_3 = 1 ∨ x44_3 = 2 ∨ x44_3 = 3 := by omega
              clear c19 cz19 c19b0
              rcases hj_ with rfl | rfl | rfl | rfl
              ·
               skip
               have c20 : (0 : Int) = (0 : Int) := rfl
               ·
                rw [if_pos c20] at H
                have c20b0 : ((0 : Int) == (0 : Int)) = true := beq_iff_eq.mpr c20
                have c20b1 : ((0 : Int) != (0 : Int)) = false := bne_eq_false_iff_eq.mpr c20
                clear c20
                have H' := Aside0.mk H
                clear H
                have hcz21_0 : wr.cell? ⟨gb103, 0, none⟩ = some (.int .i64 x104000_1) := (blk_cell BK103.out 0).trans rfl
                have hcz21_1 : wr.cell? ⟨gb103, 1, none⟩ = some (.int .i64 x104001_1) := (blk_cell BK103.out 1).trans rfl
                have hcz21_2 : wr.cell? ⟨gb103, 2, none⟩ = some (.int .i64 x104002_1) := (blk_cell BK103.out 2).trans rfl
                have hcz21_3 : wr.cell? ⟨gb103, 3, none⟩ = some (.int .i64 x104003_1) := (blk_cell BK103.out 3).trans rfl
                have hfz21_0 := blk_frozen BK103.out 0
                have hfz21_1 := blk_frozen BK103.out 1
                have hfz21_2 := blk_frozen BK103.out 2
                have hfz21_3 := blk_frozen BK103.out 3
                go_wp2
                go_roundg k3
                case measure => have := HK1.out; have := HK2.out; have := HK3.out; omega
                case rel => exact ⟨(x5_3), (1 : Int), (by first | rfl | (simp; done) | (simp [*]; done)), (by have H2_ := H'.out; rw [show wrap64 ((0 : Int) + 1) = 1 from by unfold wrap64; omega] at H2_; exact ⟨H2_⟩), ⟨by have := HK1.out; have := HK2.out; have := HK3.out; omega⟩, ⟨krq2 HO_5.out⟩, ⟨kbq2 BK103.out⟩, ⟨lb1q2 HB.out GE103.out⟩⟩
              ·
               skip
               have c20 : ¬ (1 : Int) = (0 : Int) := by decide
               ·
                rw [if_neg c20] at H
                have c20b0 : ((1 : Int) == (0 : Int)) = false := beq_eq_false_iff_ne.mpr c20
                have c20b1 : ((1 : Int) != (0 : Int)) = true := bne_iff_ne.mpr c20
                by_cases c22 : (pk x104000_1 x104001_1 x104002_1 x104003_1 (1 : Int)) = x104000_1
                ·
                 rw [if_pos c22] at H
                 have c22b0 : (x104001_1 == x104000_1) = true := beq_iff_eq.mpr c22
                 have c22b1 : (x104001_1 != x104000_1) = false := bne_eq_false_iff_eq.mpr c22
                 clear c22
                 by_cases c23 : x5_3.length < 17592186044416
                 ·
                  rw [if_pos c23] at H
                  have LMc23 := Aside0.mk c23
                  clear c23
                  obtain ⟨y107, hy107⟩ : ∃ y_ : List Int, y_ = (x5_3 ++ [(1 : Int)]) := ⟨_, rfl⟩
                  replace H : (impl_EndsAfter.l2 k3 y107 (0 : Int) x104000_1 (0 : Int) (wrap64 ((1 : Int) + 1)) x104000_1 x104001_1 x104002_1 x104003_1) = some r := by first | (rw [hy107]; with_reducible exact H) | (have H2_ := (Option.bind_some _ _).symm.trans H; rw [hy107]; with_reducible exact H2_) | (have H2_ := (Option.bind_some _ _).symm.trans H; with_reducible exact H2_) | with_reducible exact H | (rw [hy107]; exact H) | exact H
                  have Ny107 := Aside0.mk hy107
                  clear hy107
                  have H' := Aside0.mk H
                  clear H
                  have hcz24_0 : wr.cell? ⟨gb103, 0, none⟩ = some (.int .i64 x104000_1) := (blk_cell BK103.out 0).trans rfl
                  have hcz24_1 : wr.cell? ⟨gb103, 1, none⟩ = some (.int .i64 x104001_1) := (blk_cell BK103.out 1).trans rfl
                  have hcz24_2 : wr.cell? ⟨gb103, 2, none⟩ = some (.int .i64 x104002_1) := (blk_cell BK103.out 2).trans rfl
                  have hcz24_3 : wr.cell? ⟨gb103, 3, none⟩ = some (.int .i64 x104003_1) := (blk_cell BK103.out 3).trans rfl
                  have hfz24_0 := blk_frozen BK103.out 0
                  have hfz24_1 := blk_frozen BK103.out 1
                  have hfz24_2 := blk_frozen BK103.out 2
                  have hfz24_3 := blk_frozen BK103.out 3
                  go_wp2_with (first | ((with_reducible refine gate_builtin (b := .append) (xs := #[.tmp 57, .tmp 59]) rfl ?_); at_builtin; refine Kd.R_append (Kd.int .i64) (w0 := w) w.heap.size rfl (.tmp 57) (.tmp 59) 34 3 (.int .i64 0) 8 rfl Tryd.underlying34 info3 rfl (by decide) (by omega) u5 x5_3 (1 : Int) [.int .i64 (1 : Int)] (fun _ => True) (fun _ => False) rfl rfl ?aP (fun _ hk => hk.elim) ?aF ?aO ?aB ?aS ?aL ?_; (case aP => exact rfl); (case aB => exact (lb1q2 HB.out GE103.out)); (case aF => exact (fun _ _ => trivial)); (case aO => exact (krq2 HO_5.out)); (case aS => exact (below_size (lb1q2 HB.out GE103.out))); (case aL => have := LMc23.out; omega); intro v108 w25 ho hb hg hat; rw [← Ny107.out] at ho; have n0_ := Aside0.mk (blk_grown (g := gb103) (o := .cells #[.int .i64 x104000_1, .int .i64 x104001_1, .int .i64 x104002_1, .int .i64 x104003_1] 54 (0, 0)) (kbq2 BK103.out) hg (Kd.R_ne HO_5.out BK103.out (by decide))); have n1_ := Aside0.mk (hb); have n2_ := Aside0.mk (ho); clear BK103; clear HB; clear HO_5; have BK103 := n0_; have HB := n1_; have HO109 := n2_; clear n0_ n1_ n2_; clear ho hb hg hat))
                  go_roundg k3
                  case measure => have := HK1.out; have := HK2.out; have := HK3.out; omega
                  case rel => exact ⟨(y107), (2 : Int), (by first | rfl | (simp; done) | (simp [*]; done)), (by have H2_ := H'.out; rw [show wrap64 ((1 : Int) + 1) = 2 from by unfold wrap64; omega] at H2_; exact ⟨H2_⟩), ⟨by have := HK1.out; have := HK2.out; have := HK3.out; omega⟩, ⟨krq2 HO109.out⟩, ⟨kbq2 BK103.out⟩, ⟨lb1q2 HB.out GE103.out⟩⟩
                 ·
                  rw [if_neg c23] at H
                  exact absurd H (by simp)
                ·
                 rw [if_neg c22] at H
                 have c22b0 : (x104001_1 == x104000_1) = false := beq_eq_false_iff_ne.mpr c22
                 have c22b1 : (x104001_1 != x104000_1) = true := bne_iff_ne.mpr c22
                 have H' := Aside0.mk H
                 clear H
                 have hcz26_0 : wr.cell? ⟨gb103, 0, none⟩ = some (.int .i64 x104000_1) := (blk_cell BK103.out 0).trans rfl
                 have hcz26_1 : wr.cell? ⟨gb103, 1, none⟩ = some (.int .i64 x104001_1) := (blk_cell BK103.out 1).trans rfl
                 have hcz26_2 : wr.cell? ⟨gb103, 2, none⟩ = some (.int .i64 x104002_1) := (blk_cell BK103.out 2).trans rfl
                 have hcz26_3 : wr.cell? ⟨gb103, 3, none⟩ = some (.int .i64 x104003_1) := (blk_cell BK103.out 3).trans rfl
                 have hfz26_0 := blk_frozen BK103.out 0
                 have hfz26_1 := blk_frozen BK103.out 1
                 have hfz26_2 := blk_frozen BK103.out 2
                 have hfz26_3 := blk_frozen BK103.out 3
                 go_wp2
                 go_roundg k3
                 case measure => have := HK1.out; have := HK2.out; have := HK3.out; omega
                 case rel => exact ⟨(x5_3), (2 : Int), (by first | rfl | (simp; done) | (simp [*]; done)), (by have H2_ := H'.out; rw [show wrap64 ((1 : Int) + 1) = 2 from by unfold wrap64; omega] at H2_; exact ⟨H2_⟩), ⟨by have := HK1.out; have := HK2.out; have := HK3.out; omega⟩, ⟨krq2 HO_5.out⟩, ⟨kbq2 BK103.out⟩, ⟨lb1q2 HB.out GE103.out⟩⟩
              ·
               skip
               have c20 : ¬ (2 : Int) = (0 : Int) := by decide
               ·
                rw [if_neg c20] at H
                have c20b0 : ((2 : Int) == (0 : Int)) = false := beq_eq_false_iff_ne.mpr c20
                have c20b1 : ((2 : Int) != (0 : Int)) = true := bne_iff_ne.mpr c20
                by_cases c22 : (pk x104000_1 x104001_1 x104002_1 x104003_1 (2 : Int)) = x104000_1
                ·
                 rw [if_pos c22] at H
                 have c22b0 : (x104002_1 == x104000_1) = true := beq_iff_eq.mpr c22
                 have c22b1 : (x104002_1 != x104000_1) = false := bne_eq_false_iff_eq.mpr c22
                 clear c22
                 by_cases c23 : x5_3.length < 17592186044416
                 ·
                  rw [if_pos c23] at H
                  have LMc23 := Aside0.mk c23
                  clear c23
                  obtain ⟨y107, hy107⟩ : ∃ y_ : List Int, y_ = (x5_3 ++ [(2 : Int)]) := ⟨_, rfl⟩
                  replace H : (impl_EndsAfter.l2 k3 y107 (0 : Int) x104000_1 (0 : Int) (wrap64 ((2 : Int) + 1)) x104000_1 x104001_1 x104002_1 x104003_1) = some r := by first | (rw [hy107]; with_reducible exact H) | (have H2_ := (Option.bind_some _ _).symm.trans H; rw [hy107]; with_reducible exact H2_) | (have H2_ := (Option.bind_some _ _).symm.trans H; with_reducible exact H2_) | with_reducible exact H | (rw [hy107]; exact H) | exact H
                  have Ny107 := Aside0.mk hy107
                  clear hy107
                  have H' := Aside0.mk H
                  clear H
                  have hcz24_0 : wr.cell? ⟨gb103, 0, none⟩ = some (.int .i64 x104000_1) := (blk_cell BK103.out 0).trans rfl
                  have hcz24_1 : wr.cell? ⟨gb103, 1, none⟩ = some (.int .i64 x104001_1) := (blk_cell BK103.out 1).trans rfl
                  have hcz24_2 : wr.cell? ⟨gb103, 2, none⟩ = some (.int .i64 x104002_1) := (blk_cell BK103.out 2).trans rfl
                  have hcz24_3 : wr.cell? ⟨gb103, 3, none⟩ = some (.int .i64 x104003_1) := (blk_cell BK103.out 3).trans rfl
                  have hfz24_0 := blk_frozen BK103.out 0
                  have hfz24_1 := blk_frozen BK103.out 1
                  have hfz24_2 := blk_frozen BK103.out 2
                  have hfz24_3 := blk_frozen BK103.out 3
                  go_wp2_with (first | ((with_reducible refine gate_builtin (b := .append) (xs := #[.tmp 57, .tmp 59]) rfl ?_); at_builtin; refine Kd.R_append (Kd.int .i64) (w0 := w) w.heap.size rfl (.tmp 57) (.tmp 59) 34 3 (.int .i64 0) 8 rfl Tryd.underlying34 info3 rfl (by decide) (by omega) u5 x5_3 (2 : Int) [.int .i64 (2 : Int)] (fun _ => True) (fun _ => False) rfl rfl ?aP (fun _ hk => hk.elim) ?aF ?aO ?aB ?aS ?aL ?_; (case aP => exact rfl); (case aB => exact (lb1q2 HB.out GE103.out)); (case aF => exact (fun _ _ => trivial)); (case aO => exact (krq2 HO_5.out)); (case aS => exact (below_size (lb1q2 HB.out GE103.out))); (case aL => have := LMc23.out; omega); intro v108 w25 ho hb hg hat; rw [← Ny107.out] at ho; have n0_ := Aside0.mk (blk_grown (g := gb103) (o := .cells #[.int .i64 x104000_1, .int .i64 x104001_1, .int .i64 x104002_1, .int .i64 x104003_1] 54 (0, 0)) (kbq2 BK103.out) hg (Kd.R_ne HO_5.out BK103.out (by decide))); have n1_ := Aside0.mk (hb); have n2_ := Aside0.mk (ho); clear BK103; clear HB; clear HO_5; have BK103 := n0_; have HB := n1_; have HO109 := n2_; clear n0_ n1_ n2_; clear ho hb hg hat))
                  go_roundg k3
                  case measure => have := HK1.out; have := HK2.out; have := HK3.out; omega
                  case rel => exact ⟨(y107), (3 : Int), (by first | rfl | (simp; done) | (simp [*]; done)), (by have H2_ := H'.out; rw [show wrap64 ((2 : Int) + 1) = 3 from by unfold wrap64; omega] at H2_; exact ⟨H2_⟩), ⟨by have := HK1.out; have := HK2.out; have := HK3.out; omega⟩, ⟨krq2 HO109.out⟩, ⟨kbq2 BK103.out⟩, ⟨lb1q2 HB.out GE103.out⟩⟩
                 ·
                  rw [if_neg c23] at H
                  exact absurd H (by simp)
                ·
                 rw [if_neg c22] at H
                 have c22b0 : (x104002_1 == x104000_1) = false := beq_eq_false_iff_ne.mpr c22
                 have c22b1 : (x104002_1 != x104000_1) = true := bne_iff_ne.mpr c22
                 have H' := Aside0.mk H
                 clear H
                 have hcz26_0 : wr.cell? ⟨gb103, 0, none⟩ = some (.int .i64 x104000_1) := (blk_cell BK103.out 0).trans rfl
                 have hcz26_1 : wr.cell? ⟨gb103, 1, none⟩ = some (.int .i64 x104001_1) := (blk_cell BK103.out 1).trans rfl
                 have hcz26_2 : wr.cell? ⟨gb103, 2, none⟩ = some (.int .i64 x104002_1) := (blk_cell BK103.out 2).trans rfl
                 have hcz26_3 : wr.cell? ⟨gb103, 3, none⟩ = some (.int .i64 x104003_1) := (blk_cell BK103.out 3).trans rfl
                 have hfz26_0 := blk_frozen BK103.out 0
                 have hfz26_1 := blk_frozen BK103.out 1
                 have hfz26_2 := blk_frozen BK103.out 2
                 have hfz26_3 := blk_frozen BK103.out 3
                 go_wp2
                 go_roundg k3
                 case measure => have := HK1.out; have := HK2.out; have := HK3.out; omega
                 case rel => exact ⟨(x5_3), (3 : Int), (by first | rfl | (simp; done) | (simp [*]; done)), (by have H2_ := H'.out; rw [show wrap64 ((2 : Int) + 1) = 3 from by unfold wrap64; omega] at H2_; exact ⟨H2_⟩), ⟨by have := HK1.out; have := HK2.out; have := HK3.out; omega⟩, ⟨krq2 HO_5.out⟩, ⟨kbq2 BK103.out⟩, ⟨lb1q2 HB.out GE103.out⟩⟩
              ·
               skip
               have c20 : ¬ (3 : Int) = (0 : Int) := by decide
               ·
                rw [if_neg c20] at H
                have c20b0 : ((3 : Int) == (0 : Int)) = false := beq_eq_false_iff_ne.mpr c20
                have c20b1 : ((3 : Int) != (0 : Int)) = true := bne_iff_ne.mpr c20
                by_cases c22 : (pk x104000_1 x104001_1 x104002_1 x104003_1 (3 : Int)) = x104000_1
                ·
                 rw [if_pos c22] at H
                 have c22b0 : (x104003_1 == x104000_1) = true := beq_iff_eq.mpr c22
                 have c22b1 : (x104003_1 != x104000_1) = false := bne_eq_false_iff_eq.mpr c22
                 clear c22
                 by_cases c23 : x5_3.length < 17592186044416
                 ·
                  rw [if_pos c23] at H
                  have LMc23 := Aside0.mk c23
                  clear c23
                  obtain ⟨y107, hy107⟩ : ∃ y_ : List Int, y_ = (x5_3 ++ [(3 : Int)]) := ⟨_, rfl⟩
                  replace H : (impl_EndsAfter.l2 k3 y107 (0 : Int) x104000_1 (0 : Int) (wrap64 ((3 : Int) + 1)) x104000_1 x104001_1 x104002_1 x104003_1) = some r := by first | (rw [hy107]; with_reducible exact H) | (have H2_ := (Option.bind_some _ _).symm.trans H; rw [hy107]; with_reducible exact H2_) | (have H2_ := (Option.bind_some _ _).symm.trans H; with_reducible exact H2_) | with_reducible exact H | (rw [hy107]; exact H) | exact H
                  have Ny107 := Aside0.mk hy107
                  clear hy107
                  have H' := Aside0.mk H
                  clear H
                  have hcz24_0 : wr.cell? ⟨gb103, 0, none⟩ = some (.int .i64 x104000_1) := (blk_cell BK103.out 0).trans rfl
                  have hcz24_1 : wr.cell? ⟨gb103, 1, none⟩ = some (.int .i64 x104001_1) := (blk_cell BK103.out 1).trans rfl
                  have hcz24_2 : wr.cell? ⟨gb103, 2, none⟩ = some (.int .i64 x104002_1) := (blk_cell BK103.out 2).trans rfl
                  have hcz24_3 : wr.cell? ⟨gb103, 3, none⟩ = some (.int .i64 x104003_1) := (blk_cell BK103.out 3).trans rfl
                  have hfz24_0 := blk_frozen BK103.out 0
                  have hfz24_1 := blk_frozen BK103.out 1
                  have hfz24_2 := blk_frozen BK103.out 2
                  have hfz24_3 := blk_frozen BK103.out 3
                  go_wp2_with (first | ((with_reducible refine gate_builtin (b := .append) (xs := #[.tmp 57, .tmp 59]) rfl ?_); at_builtin; refine Kd.R_append (Kd.int .i64) (w0 := w) w.heap.size rfl (.tmp 57) (.tmp 59) 34 3 (.int .i64 0) 8 rfl Tryd.underlying34 info3 rfl (by decide) (by omega) u5 x5_3 (3 : Int) [.int .i64 (3 : Int)] (fun _ => True) (fun _ => False) rfl rfl ?aP (fun _ hk => hk.elim) ?aF ?aO ?aB ?aS ?aL ?_; (case aP => exact rfl); (case aB => exact (lb1q2 HB.out GE103.out)); (case aF => exact (fun _ _ => trivial)); (case aO => exact (krq2 HO_5.out)); (case aS => exact (below_size (lb1q2 HB.out GE103.out))); (case aL => have := LMc23.out; omega); intro v108 w25 ho hb hg hat; rw [← Ny107.out] at ho; have n0_ := Aside0.mk (blk_grown (g := gb103) (o := .cells #[.int .i64 x104000_1, .int .i64 x104001_1, .int .i64 x104002_1, .int .i64 x104003_1] 54 (0, 0)) (kbq2 BK103.out) hg (Kd.R_ne HO_5.out BK103.out (by decide))); have n1_ := Aside0.mk (hb); have n2_ := Aside0.mk (ho); clear BK103; clear HB; clear HO_5; have BK103 := n0_; have HB := n1_; have HO109 := n2_; clear n0_ n1_ n2_; clear ho hb hg hat))
                  go_roundg k3
                  case measure => have := HK1.out; have := HK2.out; have := HK3.out; omega
                  case rel => exact ⟨(y107), (4 : Int), (by first | rfl | (simp; done) | (simp [*]; done)), (by have H2_ := H'.out; rw [show wrap64 ((3 : Int) + 1) = 4 from by unfold wrap64; omega] at H2_; exact ⟨H2_⟩), ⟨by have := HK1.out; have := HK2.out; have := HK3.out; omega⟩, ⟨krq2 HO109.out⟩, ⟨kbq2 BK103.out⟩, ⟨lb1q2 HB.out GE103.out⟩⟩
                 ·
                  rw [if_neg c23] at H
                  exact absurd H (by simp)
                ·
                 rw [if_neg c22] at H
                 have c22b0 : (x104003_1 == x104000_1) = false := beq_eq_false_iff_ne.mpr c22
                 have c22b1 : (x104003_1 != x104000_1) = true := bne_iff_ne.mpr c22
                 have H' := Aside0.mk H
                 clear H
                 have hcz26_0 : wr.cell? ⟨gb103, 0, none⟩ = some (.int .i64 x104000_1) := (blk_cell BK103.out 0).trans rfl
                 have hcz26_1 : wr.cell? ⟨gb103, 1, none⟩ = some (.int .i64 x104001_1) := (blk_cell BK103.out 1).trans rfl
                 have hcz26_2 : wr.cell? ⟨gb103, 2, none⟩ = some (.int .i64 x104002_1) := (blk_cell BK103.out 2).trans rfl
                 have hcz26_3 : wr.cell? ⟨gb103, 3, none⟩ = some (.int .i64 x104003_1) := (blk_cell BK103.out 3).trans rfl
                 have hfz26_0 := blk_frozen BK103.out 0
                 have hfz26_1 := blk_frozen BK103.out 1
                 have hfz26_2 := blk_frozen BK103.out 2
                 have hfz26_3 := blk_frozen BK103.out 3
                 go_wp2
                 go_roundg k3
                 case measure => have := HK1.out; have := HK2.out; have := HK3.out; omega
                 case rel => exact ⟨(x5_3), (4 : Int), (by first | rfl | (simp; done) | (simp [*]; done)), (by have H2_ := H'.out; rw [show wrap64 ((3 : Int) + 1) = 4 from by unfold wrap64; omega] at H2_; exact ⟨H2_⟩), ⟨by have := HK1.out; have := HK2.out; have := HK3.out; omega⟩, ⟨krq2 HO_5.out⟩, ⟨kbq2 BK103.out⟩, ⟨lb1q2 HB.out GE103.out⟩⟩
             ·
              rw [if_neg cz19] at H
              exact absurd H (by simp)
            ·
             rw [if_neg c19] at H
             have c19b0 : decide (x44_3 < 4) = false := decide_eq_false c19
             clear c19
             have H' := Aside0.mk H
             clear H
             go_wp2
             go_roundg k3
             case measure => have := HK1.out; have := HK2.out; have := HK3.out; omega
             case rel => exact ⟨(x5_3), (1 : Int), (by first | rfl | (simp; done) | (simp [*]; done)), (by have H2_ := H'.out; rw [show wrap64 ((0 : Int) + 1) = 1 from by unfold wrap64; omega] at H2_; exact ⟨H2_⟩), ⟨by have := HK1.out; have := HK2.out; have := HK3.out; omega⟩, ⟨krq2 HO_5.out⟩, ⟨kbq2 BK103.out⟩, ⟨lb1q2 HB.out GE103.out⟩⟩
         ·
          skip
          have ix_ : ∀ w : World, (Instr.index 54 (.agg #[.int .i64 x104000_1, .int .i64 x104001_1, .int .i64 x104002_1, .int .i64 x104003_1]) (.int .i64 1)).run Tryd.prog w = .ok (.int .i64 x104001_1) w := fun _ => by kernel_rfl
          have H' := Aside0.mk H
          clear H
          have hcz18_0 : wr.cell? ⟨gb103, 0, none⟩ = some (.int .i64 x104000_1) := (blk_cell BK103.out 0).trans rfl
          have hcz18_1 : wr.cell? ⟨gb103, 1, none⟩ = some (.int .i64 x104001_1) := (blk_cell BK103.out 1).trans rfl
          have hcz18_2 : wr.cell? ⟨gb103, 2, none⟩ = some (.int .i64 x104002_1) := (blk_cell BK103.out 2).trans rfl
          have hcz18_3 : wr.cell? ⟨gb103, 3, none⟩ = some (.int .i64 x104003_1) := (blk_cell BK103.out 3).trans rfl
          have hfz18_0 := blk_frozen BK103.out 0
          have hfz18_1 := blk_frozen BK103.out 1
          have hfz18_2 := blk_frozen BK103.out 2
          have hfz18_3 := blk_frozen BK103.out 3
          go_wp2
          go_loopg [5, 44] k2 (fun kq v5 v44 w' => ∃ (x5_3 : List Int) (x44_3 : Int), v44 = .int .i64 x44_3 ∧ Aside0 (impl_EndsAfter.l2 kq x5_3 (1 : Int) x104001_1 (1 : Int) x44_3 x104000_1 x104001_1 x104002_1 x104003_1 = some r) ∧ Aside0 (kq ≤ k2) ∧ Aside0 (Kd.R (Kd.int .i64) 3 w' w.heap.size (fun _ => True) v5 x5_3) ∧ Aside0 (w'.heap[gb103]? = some (.cells #[.int .i64 x104000_1, .int .i64 x104001_1, .int .i64 x104002_1, .int .i64 x104003_1] 54 (0, 0))) ∧ Aside0 (Below w.heap.size w w'))
          case atStart => exact ⟨(x5_2), (0), (by first | rfl | (simp; done) | (simp [*]; done)), H', ⟨Nat.le_refl _⟩, ⟨krq2 HO_5.out⟩, ⟨kbq2 BK103.out⟩, ⟨lb1q2 HB.out GE103.out⟩⟩
          case round =>
           clear H'; (try clear c1); (try clear p1); (try clear q1); (try clear hx1); (try clear p2); (try clear c3); (try clear c5); (try clear p6); (try clear c7); (try clear c7b0); (try clear c8); (try clear c8b0); (try clear c9); (try clear c9b0); (try clear p10); (try clear q10); (try clear hx10); (try clear c11); (try clear c11b0); (try clear c11b1); (try clear c17); (try clear c17b0); (try clear hcz12_0); (try clear hcz12_1); (try clear hcz12_2); (try clear hcz12_3); (try clear hcz13_0); (try clear hcz13_1); (try clear hcz13_2); (try clear hcz13_3); (try clear hcz16_0); (try clear hcz16_1); (try clear hcz16_2); (try clear hcz16_3); (try clear hcz18_0); (try clear hcz18_1); (try clear hcz18_2); (try clear hcz18_3); (try clear hcz6_0); (try clear hcz6_1); (try clear hcz6_2); (try clear hcz6_3); (try clear hfz12_0); (try clear hfz12_1); (try clear hfz12_2); (try clear hfz12_3); (try clear hfz13_0); (try clear hfz13_1); (try clear hfz13_2); (try clear hfz13_3); (try clear hfz16_0); (try clear hfz16_1); (try clear hfz16_2); (try clear hfz16_3); (try clear hfz18_0); (try clear hfz18_1); (try clear hfz18_2); (try clear hfz18_3); (try clear hfz6_0); (try clear hfz6_1); (try clear hfz6_2); (try clear hfz6_3); (try clear p1); (try clear p10); (try clear p2); (try clear p6); (try clear q1); (try clear q10)
           obtain ⟨x5_3, x44_3, rfl, HA, HK3, HO_5, BK103, HB⟩ := hrel
           cases gk with
           | zero => exact absurd HA.out (by simp [impl_EndsAfter.l2])
           | succ k3 =>
            have H := HA.out
            clear HA
            simp only [impl_EndsAfter.l2] at H
            by_cases c19 : x44_3 < 4
            ·
             rw [if_pos c19] at H
             have c19b0 : decide (x44_3 < 4) = true := decide_eq_true c19
             by_cases cz19 : 0 ≤ x44_3
             ·
              rw [if_pos cz19] at H
              have hj_ : x44_3 = 0 ∨ x44_3 = 1 ∨ x44_3 = 2 ∨ x44_3 = 3 := by omega
              clear c19 cz19 c19b0
              rcases hj_ with rfl | rfl | rfl | rfl
              ·
               skip
               have c20 : ¬ (0 : Int) = (1 : Int) := by decide
               ·
                rw [if_neg c20] at H
                have c20b0 : ((0 : Int) == (1 : Int)) = false := beq_eq_false_iff_ne.mpr c20
                have c20b1 : ((0 : Int) != (1 : Int)) = true := bne_iff_ne.mpr c20
                by_cases c22 : (pk x104000_1 x104001_1 x104002_1 x104003_1 (0 : Int)) = x104001_1
                ·
                 rw [if_pos c22] at H
                 have c22b0 : (x104000_1 == x104001_1) = true := beq_iff_eq.mpr c22
                 have c22b1 : (x104000_1 != x104001_1) = false := bne_eq_false_iff_eq.mpr c22
                 clear c22
                 by_cases c23 : x5_3.length < 17592186044416
                 ·
                  rw [if_pos c23] at H
                  have LMc23 := Aside0.mk c23
                  clear c23
                  obtain ⟨y107, hy107⟩ : ∃ y_ : List Int, y_ = (x5_3 ++ [(0 : Int)]) := ⟨_, rfl⟩
                  replace H : (impl_EndsAfter.l2 k3 y107 (1 : Int) x104001_1 (1 : Int) (wrap64 ((0 : Int) + 1)) x104000_1 x104001_1 x104002_1 x104003_1) = some r := by first | (rw [hy107]; with_reducible exact H) | (have H2_ := (Option.bind_some _ _).symm.trans H; rw [hy107]; with_reducible exact H2_) | (have H2_ := (Option.bind_some _ _).symm.trans H; with_reducible exact H2_) | with_reducible exact H | (rw [hy107]; exact H) | exact H
                  have Ny107 := Aside0.mk hy107
                  clear hy107
                  have H' := Aside0.mk H
                  clear H
                  have hcz24_0 : wr.cell? ⟨gb103, 0, none⟩ = some (.int .i64 x104000_1) := (blk_cell BK103.out 0).trans rfl
                  have hcz24_1 : wr.cell? ⟨gb103, 1, none⟩ = some (.int .i64 x104001_1) := (blk_cell BK103.out 1).trans rfl
                  have hcz24_2 : wr.cell? ⟨gb103, 2, none⟩ = some (.int .i64 x104002_1) := (blk_cell BK103.out 2).trans rfl
                  have hcz24_3 : wr.cell? ⟨gb103, 3, none⟩ = some (.int .i64 x104003_1) := (blk_cell BK103.out 3).trans rfl
                  have hfz24_0 := blk_frozen BK103.out 0
                  have hfz24_1 := blk_frozen BK103.out 1
                  have hfz24_2 := blk_frozen BK103.out 2
                  have hfz24_3 := blk_frozen BK103.out 3
                  go_wp2_with (first | ((with_reducible refine gate_builtin (b := .append) (xs := #[.tmp 57, .tmp 59]) rfl ?_); at_builtin; refine Kd.R_append (Kd.int .i64) (w0 := w) w.heap.size rfl (.tmp 57) (.tmp 59) 34 3 (.int .i64 0) 8 rfl Tryd.underlying34 info3 rfl (by decide) (by omega) u5 x5_3 (0 : Int) [.int .i64 (0 : Int)] (fun _ => True) (fun _ => False) rfl rfl ?aP (fun _ hk => hk.elim) ?aF ?aO ?aB ?aS ?aL ?_; (case aP => exact rfl); (case aB => exact (lb1q2 HB.out GE103.out)); (case aF => exact (fun _ _ => trivial)); (case aO => exact (krq2 HO_5.out)); (case aS => exact (below_size (lb1q2 HB.out GE103.out))); (case aL => have := LMc23.out; omega); intro v108 w25 ho hb hg hat; rw [← Ny107.out] at ho; have n0_ := Aside0.mk (blk_grown (g := gb103) (o := .cells #[.int .i64 x104000_1, .int .i64 x104001_1, .int .i64 x104002_1, .int .i64 x104003_1] 54 (0, 0)) (kbq2 BK103.out) hg (Kd.R_ne HO_5.out BK103.out (by decide))); have n1_ := Aside0.mk (hb); have n2_ := Aside0.mk (ho); clear BK103; clear HB; clear HO_5; have BK103 := n0_; have HB := n1_; have HO109 := n2_; clear n0_ n1_ n2_; clear ho hb hg hat))
                  go_roundg k3
                  case measure => have := HK1.out; have := HK2.out; have := HK3.out; omega
                  case rel => exact ⟨(y107), (1 : Int), (by first | rfl | (simp; done) | (simp [*]; done)), (by have H2_ := H'.out; rw [show wrap64 ((0 : Int) + 1) = 1 from by unfold wrap64; omega] at H2_; exact ⟨H2_⟩), ⟨by have := HK1.out; have := HK2.out; have := HK3.out; omega⟩, ⟨krq2 HO109.out⟩, ⟨kbq2 BK103.out⟩, ⟨lb1q2 HB.out GE103.out⟩⟩
                 ·
                  rw [if_neg c23] at H
                  exact absurd H (by simp)
                ·
                 rw [if_neg c22] at H
                 have c22b0 : (x104000_1 == x104001_1) = false := beq_eq_false_iff_ne.mpr c22
                 have c22b1 : (x104000_1 != x104001_1) = true := bne_iff_ne.mpr c22
                 have H' := Aside0.mk H
                 clear H
                 have hcz26_0 : wr.cell? ⟨gb103, 0, none⟩ = some (.int .i64 x104000_1) := (blk_cell BK103.out 0).trans rfl
                 have hcz26_1 : wr.cell? ⟨gb103, 1, none⟩ = some (.int .i64 x104001_1) := (blk_cell BK103.out 1).trans rfl
                 have hcz26_2 : wr.cell? ⟨gb103, 2, none⟩ = some (.int .i64 x104002_1) := (blk_cell BK103.out 2).trans rfl
                 have hcz26_3 : wr.cell? ⟨gb103, 3, none⟩ = some (.int .i64 x104003_1) := (blk_cell BK103.out 3).trans rfl
                 have hfz26_0 := blk_frozen BK103.out 0
                 have hfz26_1 := blk_frozen BK103.out 1
                 have hfz26_2 := blk_frozen BK103.out 2
                 have hfz26_3 := blk_frozen BK103.out 3
                 go_wp2
                 go_roundg k3
                 case measure => have := HK1.out; have := HK2.out; have := HK3.out; omega
                 case rel => exact ⟨(x5_3), (1 : Int), (by first | rfl | (simp; done) | (simp [*]; done)), (by have H2_ := H'.out; rw [show wrap64 ((0 : Int) + 1) = 1 from by unfold wrap64; omega] at H2_; exact ⟨H2_⟩), ⟨by have := HK1.out; have := HK2.out; have := HK3.out; omega⟩, ⟨krq2 HO_5.out⟩, ⟨kbq2 BK103.out⟩, ⟨lb1q2 HB.out GE103.out⟩⟩
              ·
               skip
               have c20 : (1 : Int) = (1 : Int) := rfl
               ·
                rw [if_pos c20] at H
                have c20b0 : ((1 : Int) == (1 : Int)) = true := beq_iff_eq.mpr c20
                have c20b1 : ((1 : Int) != (1 : Int)) = false := bne_eq_false_iff_eq.mpr c20
                clear c20
                have H' := Aside0.mk H
                clear H
                have hcz21_0 : wr.cell? ⟨gb103, 0, none⟩ = some (.int .i64 x104000_1) := (blk_cell BK103.out 0).trans rfl
                have hcz21_1 : wr.cell? ⟨gb103, 1, none⟩ = some (.int .i64 x104001_1) := (blk_cell BK103.out 1).trans rfl
                have hcz21_2 : wr.cell? ⟨gb103, 2, none⟩ = some (.int .i64 x104002_1) := (blk_cell BK103.out 2).trans rfl
                have hcz21_3 : wr.cell? ⟨gb103, 3, none⟩ = some (.int .i64 x104003_1) := (blk_cell BK103.out 3).trans rfl
                have hfz21_0 := blk_frozen BK103.out 0
                have hfz21_1 := blk_frozen BK103.out 1
                have hfz21_2 := blk_frozen BK103.out 2
                have hfz21_3 := blk_frozen BK103.out 3
                go_wp2
                go_roundg k3
                case measure => have := HK1.out; have := HK2.out; have := HK3.out; omega
                case rel => exact ⟨(x5_3), (2 : Int), (by first | rfl | (simp; done) | (simp [*]; done)), (by have H2_ := H'.out; rw [show wrap64 ((1 : Int) + 1) = 2 from by unfold wrap64; omega] at H2_; exact ⟨H2_⟩), ⟨by have := HK1.out; have := HK2.out; have := HK3.out; omega⟩, ⟨krq2 HO_5.out⟩, ⟨kbq2 BK103.out⟩, ⟨lb1q2 HB.out GE103.out⟩⟩
              ·
               skip
               have c20 : ¬ (2 : Int) = (1 : Int) := by decide
               ·
                rw [if_neg c20] at H
                have c20b0 : ((2 : Int) == (1 : Int)) = false := beq_eq_false_iff_ne.mpr c20
                have c20b1 : ((2 : Int) != (1 : Int)) = true := bne_iff_ne.mpr c20
                by_cases c22 : (pk x104000_1 x104001_1 x104002_1 x104003_1 (2 : Int)) = x104001_1
                ·
                 rw [if_pos c22] at H
                 have c22b0 : (x104002_1 == x104001_1) = true := beq_iff_eq.mpr c22
                 have c22b1 : (x104002_1 != x104001_1) = false := bne_eq_false_iff_eq.mpr c22
                 clear c22
                 by_cases c23 : x5_3.length < 17592186044416
                 ·
                  rw [if_pos c23] at H
                  have LMc23 := Aside0.mk c23
                  clear c23
                  obtain ⟨y107, hy107⟩ : ∃ y_ : List Int, y_ = (x5_3 ++ [(2 : Int)]) := ⟨_, rfl⟩
                  replace H : (impl_EndsAfter.l2 k3 y107 (1 : Int) x104001_1 (1 : Int) (wrap64 ((2 : Int) + 1)) x104000_1 x104001_1 x104002_1 x104003_1) = some r := by first | (rw [hy107]; with_reducible exact H) | (have H2_ := (Option.bind_some _ _).symm.trans H; rw [hy107]; with_reducible exact H2_) | (have H2_ := (Option.bind_some _ _).symm.trans H; with_reducible exact H2_) | with_reducible exact H | (rw [hy107]; exact H) | exact H
                  have Ny107 := Aside0.mk hy107
                  clear hy107
                  have H' := Aside0.mk H
                  clear H
                  have hcz24_0 : wr.cell? ⟨gb103, 0, none⟩ = some (.int .i64 x104000_1) := (blk_cell BK103.out 0).trans rfl
                  have hcz24_1 : wr.cell? ⟨gb103, 1, none⟩ = some (.int .i64 x104001_1) := (blk_cell BK103.out 1).trans rfl
                  have hcz24_2 : wr.cell? ⟨gb103, 2, none⟩ = some (.int .i64 x104002_1) := (blk_cell BK103.out 2).trans rfl
                  have hcz24_3 : wr.cell? ⟨gb103, 3, none⟩ = some (.int .i64 x104003_1) := (blk_cell BK103.out 3).trans rfl
                  have hfz24_0 := blk_frozen BK103.out 0
                  have hfz24_1 := blk_frozen BK103.out 1
                  have hfz24_2 := blk_frozen BK103.out 2
                  have hfz24_3 := blk_frozen BK103.out 3
                  go_wp2_with (first | ((with_reducible refine gate_builtin (b := .append) (xs := #[.tmp 57, .tmp 59]) rfl ?_); at_builtin; refine Kd.R_append (Kd.int .i64) (w0 := w) w.heap.size rfl (.tmp 57) (.tmp 59) 34 3 (.int .i64 0) 8 rfl Tryd.underlying34 info3 rfl (by decide) (by omega) u5 x5_3 (2 : Int) [.int .i64 (2 : Int)] (fun _ => True) (fun _ => False) rfl rfl ?aP (fun _ hk => hk.elim) ?aF ?aO ?aB ?aS ?aL ?_; (case aP => exact rfl); (case aB => exact (lb1q2 HB.out GE103.out)); (case aF => exact (fun _ _ => trivial)); (case aO => exact (krq2 HO_5.out)); (case aS => exact (below_size (lb1q2 HB.out GE103.out))); (case aL => have := LMc23.out; omega); intro v108 w25 ho hb hg hat; rw [← Ny107.out] at ho; have n0_ := Aside0.mk (blk_grown (g := gb103) (o := .cells #[.int .i64 x104000_1, .int .i64 x104001_1, .int .i64 x104002_1, .int .i64 x104003_1] 54 (0, 0)) (kbq2 BK103.out) hg (Kd.R_ne HO_5.out BK103.out (by decide))); have n1_ := Aside0.mk (hb); have n2_ := Aside0.mk (ho); clear BK103; clear HB; clear HO_5; have BK103 := n0_; have HB := n1_; have HO109 := n2_; clear n0_ n1_ n2_; clear ho hb hg hat))
                  go_roundg k3
                  case measure => have := HK1.out; have := HK2.out; have := HK3.out; omega
                  case rel => exact ⟨(y107), (3 : Int), (by first | rfl | (simp; done) | (simp [*]; done)), (by have H2_ := H'.out; rw [show wrap64 ((2 : Int) + 1) = 3 from by unfold wrap64; omega] at H2_; exact ⟨H2_⟩), ⟨by have := HK1.out; have := HK2.out; have := HK3.out; omega⟩, ⟨krq2 HO109.out⟩, ⟨kbq2 BK103.out⟩, ⟨lb1q2 HB.out GE103.out⟩⟩
                 ·
                  rw [if_neg c23] at H
                  exact absurd H (by simp)
                ·
                 rw [if_neg c22] at H
                 have c22b0 : (x104002_1 == x104001_1) = false := beq_eq_false_iff_ne.mpr c22
                 have c22b1 : (x104002_1 != x104001_1) = true := bne_iff_ne.mpr c22
                 have H' := Aside0.mk H
                 clear H
                 have hcz26_0 : wr.cell? ⟨gb103, 0, none⟩ = some (.int .i64 x104000_1) := (blk_cell BK103.out 0).trans rfl
                 have hcz26_1 : wr.cell? ⟨gb103, 1, none⟩ = some (.int .i64 x104001_1) := (blk_cell BK103.out 1).trans rfl
                 have hcz26_2 : wr.cell? ⟨gb103, 2, none⟩ = some (.int .i64 x104002_1) := (blk_cell BK103.out 2).trans rfl
                 have hcz26_3 : wr.cell? ⟨gb103, 3, none⟩ = some (.int .i64 x104003_1) := (blk_cell BK103.out 3).trans rfl
                 have hfz26_0 := blk_frozen BK103.out 0
                 have hfz26_1 := blk_frozen BK103.out 1
                 have hfz26_2 := blk_frozen BK103.out 2
                 have hfz26_3 := blk_frozen BK103.out 3
                 go_wp2
                 go_roundg k3
                 case measure => have := HK1.out; have := HK2.out; have := HK3.out; omega
                 case rel => exact ⟨(x5_3), (3 : Int), (by first | rfl | (simp; done) | (simp [*]; done)), (by have H2_ := H'.out; rw [show wrap64 ((2 : Int) + 1) = 3 from by unfold wrap64; omega] at H2_; exact ⟨H2_⟩), ⟨by have := HK1.out; have := HK2.out; have := HK3.out; omega⟩, ⟨krq2 HO_5.out⟩, ⟨kbq2 BK103.out⟩, ⟨lb1q2 HB.out GE103.out⟩⟩
              ·
               skip
               have c20 : ¬ (3 : Int) = (1 : Int) := by decide
               ·
                rw [if_neg c20] at H
                have c20b0 : ((3 : Int) == (1 : Int)) = false := beq_eq_false_iff_ne.mpr c20
                have c20b1 : ((3 : Int) != (1 : Int)) = true := bne_iff_ne.mpr c20
                by_cases c22 : (pk x104000_1 x104001_1 x104002_1 x104003_1 (3 : Int)) = x104001_1
                ·
                 rw [if_pos c22] at H
                 have c22b0 : (x104003_1 == x104001_1) = true := beq_iff_eq.mpr c22
                 have c22b1 : (x104003_1 != x104001_1) = false := bne_eq_false_iff_eq.mpr c22
                 clear c22
                 by_cases c23 : x5_3.length < 17592186044416
                 ·
                  rw [if_pos c23] at H
                  have LMc23 := Aside0.mk c23
                  clear c23
                  obtain ⟨y107, hy107⟩ : ∃ y_ : List Int, y_ = (x5_3 ++ [(3 : Int)]) := ⟨_, rfl⟩
                  replace H : (impl_EndsAfter.l2 k3 y107 (1 : Int) x104001_1 (1 : Int) (wrap64 ((3 : Int) + 1)) x104000_1 x104001_1 x104002_1 x104003_1) = some r := by first | (rw [hy107]; with_reducible exact H) | (have H2_ := (Option.bind_some _ _).symm.trans H; rw [hy107]; with_reducible exact H2_) | (have H2_ := (Option.bind_some _ _).symm.trans H; with_reducible exact H2_) | with_reducible exact H | (rw [hy107]; exact H) | exact H
                  have Ny107 := Aside0.mk hy107
                  clear hy107
                  have H' := Aside0.mk H
                  clear H
                  have hcz24_0 : wr.cell? ⟨gb103, 0, none⟩ = some (.int .i64 x104000_1) := (blk_cell BK103.out 0).trans rfl
                  have hcz24_1 : wr.cell? ⟨gb103, 1, none⟩ = some (.int .i64 x104001_1) := (blk_cell BK103.out 1).trans rfl
                  have hcz24_2 : wr.cell? ⟨gb103, 2, none⟩ = some (.int .i64 x104002_1) := (blk_cell BK103.out 2).trans rfl
                  have hcz24_3 : wr.cell? ⟨gb103, 3, none⟩ = some (.int .i64 x104003_1) := (blk_cell BK103.out 3).trans rfl
                  have hfz24_0 := blk_frozen BK103.out 0
                  have hfz24_1 := blk_frozen BK103.out 1
                  have hfz24_2 := blk_frozen BK103.out 2
                  have hfz24_3 := blk_frozen BK103.out 3
                  go_wp2_with (first | ((with_reducible refine gate_builtin (b := .append) (xs := #[.tmp 57, .tmp 59]) rfl ?_); at_builtin; refine Kd.R_append (Kd.int .i64) (w0 := w) w.heap.size rfl (.tmp 57) (.tmp 59) 34 3 (.int .i64 0) 8 rfl Tryd.underlying34 info3 rfl (by decide) (by omega) u5 x5_3 (3 : Int) [.int .i64 (3 : Int)] (fun _ => True) (fun _ => False) rfl rfl ?aP (fun _ hk => hk.elim) ?aF ?aO ?aB ?aS ?aL ?_; (case aP => exact rfl); (case aB => exact (lb1q2 HB.out GE103.out)); (case aF => exact (fun _ _ => trivial)); (case aO => exact (krq2 HO_5.out)); (case aS => exact (below_size (lb1q2 HB.out GE103.out))); (case aL => have := LMc23.out; omega); intro v108 w25 ho hb hg hat; rw [← Ny107.out] at ho; have n0_ := Aside0.mk (blk_grown (g := gb103) (o := .cells #[.int .i64 x104000_1, .int .i64 x104001_1, .int .i64 x104002_1, .int .i64 x104003_1] 54 (0, 0)) (kbq2 BK103.out) hg (Kd.R_ne HO_5.out BK103.out (by decide))); have n1_ := Aside0.mk (hb); have n2_ := Aside0.mk (ho); clear BK103; clear HB; clear HO_5; have BK103 := n0_; have HB := n1_; have HO109 := n2_; clear n0_ n1_ n2_; clear ho hb hg hat))
                  go_roundg k3
                  case measure => have := HK1.out; have := HK2.out; have := HK3.out; omega
                  case rel => exact ⟨(y107), (4 : Int), (by first | rfl | (simp; done) | (simp [*]; done)), (by have H2_ := H'.out; rw [show wrap64 ((3 : Int) + 1) = 4 from by unfold wrap64; omega] at H2_; exact ⟨H2_⟩), ⟨by have := HK1.out; have := HK2.out; have := HK3.out; omega⟩, ⟨krq2 HO109.out⟩, ⟨kbq2 BK103.out⟩, ⟨lb1q2 HB.out GE103.out⟩⟩
                 ·
                  rw [if_neg c23] at H
                  exact absurd H (by simp)
                ·
                 rw [if_neg c22] at H
                 have c22b0 : (x104003_1 == x104001_1) = false := beq_eq_false_iff_ne.mpr c22
                 have c22b1 : (x104003_1 != x104001_1) = true := bne_iff_ne.mpr c22
                 have H' := Aside0.mk H
                 clear H
                 have hcz26_0 : wr.cell? ⟨gb103, 0, none⟩ = some (.int .i64 x104000_1) := (blk_cell BK103.out 0).trans rfl
                 have hcz26_1 : wr.cell? ⟨gb103, 1, none⟩ = some (.int .i64 x104001_1) := (blk_cell BK103.out 1).trans rfl
                 have hcz26_2 : wr.cell? ⟨gb103, 2, none⟩ = some (.int .i64 x104002_1) := (blk_cell BK103.out 2).trans rfl
                 have hcz26_3 : wr.cell? ⟨gb103, 3, none⟩ = some (.int .i64 x104003_1) := (blk_cell BK103.out 3).trans rfl
                 have hfz26_0 := blk_frozen BK103.out 0
                 have hfz26_1 := blk_frozen BK103.out 1
                 have hfz26_2 := blk_frozen BK103.out 2
                 have hfz26_3 := blk_frozen BK103.out 3
                 go_wp2
                 go_roundg k3
                 case measure => have := HK1.out; have := HK2.out; have := HK3.out; omega
                 case rel => exact ⟨(x5_3), (4 : Int), (by first | rfl | (simp; done) | (simp [*]; done)), (by have H2_ := H'.out; rw [show wrap64 ((3 : Int) + 1) = 4 from by unfold wrap64; omega] at H2_; exact ⟨H2_⟩), ⟨by have := HK1.out; have := HK2.out; have := HK3.out; omega⟩, ⟨krq2 HO_5.out⟩, ⟨kbq2 BK103.out⟩, ⟨lb1q2 HB.out GE103.out⟩⟩
             ·
              rw [if_neg cz19] at H
              exact absurd H (by simp)
            ·
             rw [if_neg c19] at H
             have c19b0 : decide (x44_3 < 4) = false := decide_eq_false c19
             clear c19
             have H' := Aside0.mk H
             clear H
             go_wp2
             go_roundg k3
             case measure => have := HK1.out; have := HK2.out; have := HK3.out; omega
             case rel => exact ⟨(x5_3), (2 : Int), (by first | rfl | (simp; done) | (simp [*]; done)), (by have H2_ := H'.out; rw [show wrap64 ((1 : Int) + 1) = 2 from by unfold wrap64; omega] at H2_; exact ⟨H2_⟩), ⟨by have := HK1.out; have := HK2.out; have := HK3.out; omega⟩, ⟨krq2 HO_5.out⟩, ⟨kbq2 BK103.out⟩, ⟨lb1q2 HB.out GE103.out⟩⟩
         ·
          skip
          have ix_ : ∀ w : World, (Instr.index 54 (.agg #[.int .i64 x104000_1, .int .i64 x104001_1, .int .i64 x104002_1, .int .i64 x104003_1]) (.int .i64 2)).run Tryd.prog w = .ok (.int .i64 x104002_1) w := fun _ => by kernel_rfl
          have H' := Aside0.mk H
          clear H
          have hcz18_0 : wr.cell? ⟨gb103, 0, none⟩ = some (.int .i64 x104000_1) := (blk_cell BK103.out 0).trans rfl
          have hcz18_1 : wr.cell? ⟨gb103, 1, none⟩ = some (.int .i64 x104001_1) := (blk_cell BK103.out 1).trans rfl
          have hcz18_2 : wr.cell? ⟨gb103, 2, none⟩ = some (.int .i64 x104002_1) := (blk_cell BK103.out 2).trans rfl
          have hcz18_3 : wr.cell? ⟨gb103, 3, none⟩ = some (.int .i64 x104003_1) := (blk_cell BK103.out 3).trans rfl
          have hfz18_0 := blk_frozen BK103.out 0
          have hfz18_1 := blk_frozen BK103.out 1
          have hfz18_2 := blk_frozen BK103.out 2
          have hfz18_3 := blk_frozen BK103.out 3
          go_wp2
          go_loopg [5, 44] k2 (fun kq v5 v44 w' => ∃ (x5_3 : List Int) (x44_3 : Int), v44 = .int .i64 x44_3 ∧ Aside0 (impl_EndsAfter.l2 kq x5_3 (2 : Int) x104002_1 (2 : Int) x44_3 x104000_1 x104001_1 x104002_1 x104003_1 = some r) ∧ Aside0 (kq ≤ k2) ∧ Aside0 (Kd.R (Kd.int .i64) 3 w' w.heap.size (fun _ => True) v5 x5_3) ∧ Aside0 (w'.heap[gb103]? = some (.cells #[.int .i64 x104000_1, .int .i64 x104001_1, .int .i64 x104002_1, .int .i64 x104003_1] 54 (0, 0))) ∧ Aside0 (Below w.heap.size w w'))
          case atStart => exact ⟨(x5_2), (0), (by first | rfl | (simp; done) | (simp [*]; done)), H', ⟨Nat.le_refl _⟩, ⟨krq2 HO_5.out⟩, ⟨kbq2 BK103.out⟩, ⟨lb1q2 HB.out GE103.out⟩⟩
          case round =>
           clear H'; (try clear c1); (try clear p1); (try clear q1); (try clear hx1); (try clear p2); (try clear c3); (try clear c5); (try clear p6); (try clear c7); (try clear c7b0); (try clear c8); (try clear c8b0); (try clear c9); (try clear c9b0); (try clear p10); (try clear q10); (try clear hx10); (try clear c11); (try clear c11b0); (try clear c11b1); (try clear c17); (try clear c17b0); (try clear hcz12_0); (try clear hcz12_1); (try clear hcz12_2); (try clear hcz12_3); (try clear hcz13_0); (try clear hcz13_1); (try clear hcz13_2); (try clear hcz13_3); (try clear hcz16_0); (try clear hcz16_1); (try clear hcz16_2); (try clear hcz16_3); (try clear hcz18_0); (try clear hcz18_1); (try clear hcz18_2); (try clear hcz18_3); (try clear hcz6_0); (try clear hcz6_1); (try clear hcz6_2); (try clear hcz6_3); (try clear hfz12_0); (try clear hfz12_1); (try clear hfz12_2); (try clear hfz12_3); (try clear hfz13_0); (try clear hfz13_1); (try clear hfz13_2); (try clear hfz13_3); (try clear hfz16_0); (try clear hfz16_1); (try clear hfz16_2); (try clear hfz16_3); (try clear hfz18_0); (try clear hfz18_1); (try clear hfz18_2); (try clear hfz18_3); (try clear hfz6_0); (try clear hfz6_1); (try clear hfz6_2); (try clear hfz6_3); (try clear p1); (try clear p10); (try clear p2); (try clear p6); (try clear q1); (try clear q10)
           obtain ⟨x5_3, x44_3, rfl, HA, HK3, HO_5, BK103, HB⟩ := hrel
           cases gk with
           | zero => exact absurd HA.out (by simp [impl_EndsAfter.l2])
           | succ k3 =>
            have H := HA.out
            clear HA
            simp only [impl_EndsAfter.l2] at H
            by_cases c19 : x44_3 < 4
            ·
             rw [if_pos c19] at H
             have c19b0 : decide (x44_3 < 4) = true := decide_eq_true c19
             by_cases cz19 : 0 ≤ x44_3
             ·
              rw [if_pos cz19] at H
              have hj_ : x44_3 = 0 ∨ x44_3 = 1 ∨ x44_3 = 2 ∨ x44_3 = 3 := by omega
              clear c19 cz19 c19b0
              rcases hj_ with rfl | rfl | rfl | rfl
              ·
               skip
               have c20 : ¬ (0 : Int) = (2 : Int) := by decide
               ·
                rw [if_neg c20] at H
                have c20b0 : ((0 : Int) == (2 : Int)) = false := beq_eq_false_iff_ne.mpr c20
                have c20b1 : ((0 : Int) != (2 : Int)) = true := bne_iff_ne.mpr c20
                by_cases c22 : (pk x104000_1 x104001_1 x104002_1 x104003_1 (0 : Int)) = x104002_1
                ·
                 rw [if_pos c22] at H
                 have c22b0 : (x104000_1 == x104002_1) = true := beq_iff_eq.mpr c22
                 have c22b1 : (x104000_1 != x104002_1) = false := bne_eq_false_iff_eq.mpr c22
                 clear c22
                 by_cases c23 : x5_3.length < 17592186044416
                 ·
                  rw [if_pos c23] at H
                  have LMc23 := Aside0.mk c23
                  clear c23
                  obtain ⟨y107, hy107⟩ : ∃ y_ : List Int, y_ = (x5_3 ++ [(0 : Int)]) := ⟨_, rfl⟩
                  replace H : (impl_EndsAfter.l2 k3 y107 (2 : Int) x104002_1 (2 : Int) (wrap64 ((0 : Int) + 1)) x104000_1 x104001_1 x104002_1 x104003_1) = some r := by first | (rw [hy107]; with_reducible exact H) | (have H2_ := (Option.bind_some _ _).symm.trans H; rw [hy107]; with_reducible exact H2_) | (have H2_ := (Option.bind_some _ _).symm.trans H; with_reducible exact H2_) | with_reducible exact H | (rw [hy107]; exact H) | exact H
                  have Ny107 := Aside0.mk hy107
                  clear hy107
                  have H' := Aside0.mk H
                  clear H
                  have hcz24_0 : wr.cell? ⟨gb103, 0, none⟩ = some (.int .i64 x104000_1) := (blk_cell BK103.out 0).trans rfl
                  have hcz24_1 : wr.cell? ⟨gb103, 1, none⟩ = some (.int .i64 x104001_1) := (blk_cell BK103.out 1).trans rfl
                  have hcz24_2 : wr.cell? ⟨gb103, 2, none⟩ = some (.int .i64 x104002_1) := (blk_cell BK103.out 2).trans rfl
                  have hcz24_3 : wr.cell? ⟨gb103, 3, none⟩ = some (.int .i64 x104003_1) := (blk_cell BK103.out 3).trans rfl
                  have hfz24_0 := blk_frozen BK103.out 0
                  have hfz24_1 := blk_frozen BK103.out 1
                  have hfz24_2 := blk_frozen BK103.out 2
                  have hfz24_3 := blk_frozen BK103.out 3
                  go_wp2_with (first | ((with_reducible refine gate_builtin (b := .append) (xs := #[.tmp 57, .tmp 59]) rfl ?_); at_builtin; refine Kd.R_append (Kd.int .i64) (w0 := w) w.heap.size rfl (.tmp 57) (.tmp 59) 34 3 (.int .i64 0) 8 rfl Tryd.underlying34 info3 rfl (by decide) (by omega) u5 x5_3 (0 : Int) [.int .i64 (0 : Int)] (fun _ => True) (fun _ => False) rfl rfl ?aP (fun _ hk => hk.elim) ?aF ?aO ?aB ?aS ?aL ?_; (case aP => exact rfl); (case aB => exact (lb1q2 HB.out GE103.out)); (case aF => exact (fun _ _ => trivial)); (case aO => exact (krq2 HO_5.out)); (case aS => exact (below_size (lb1q2 HB.out GE103.out))); (case aL => have := LMc23.out; omega); intro v108 w25 ho hb hg hat; rw [← Ny107.out] at ho; have n0_ := Aside0.mk (blk_grown (g := gb103) (o := .cells #[.int .i64 x104000_1, .int .i64 x104001_1, .int .i64 x104002_1, .int .i64 x104003_1] 54 (0, 0)) (kbq2 BK103.out) hg (Kd.R_ne HO_5.out BK103.out (by decide))); have n1_ := Aside0.mk (hb); have n2_ := Aside0.mk (ho); clear BK103; clear HB; clear HO_5; have BK103 := n0_; have HB := n1_; have HO109 := n2_; clear n0_ n1_ n2_; clear ho hb hg hat))
                  go_roundg k3
                  case measure => have := HK1.out; have := HK2.out; have := HK3.out; omega
                  case rel => exact ⟨(y107), (1 : Int), (by first | rfl | (simp; done) | (simp [*]; done)), (by have H2_ := H'.out; rw [show wrap64 ((0 : Int) + 1) = 1 from by unfold wrap64; omega] at H2_; exact ⟨H2_⟩), ⟨by have := HK1.out; have := HK2.out; have := HK3.out; omega⟩, ⟨krq2 HO109.out⟩, ⟨kbq2 BK103.out⟩, ⟨lb1q2 HB.out GE103.out⟩⟩
                 ·
                  rw [if_neg c23] at H
                  exact absurd H (by simp)
                ·
                 rw [if_neg c22] at H
                 have c22b0 : (x104000_1 == x104002_1) = false := beq_eq_false_iff_ne.mpr c22
                 have c22b1 : (x104000_1 != x104002_1) = true := bne_iff_ne.mpr c22
                 have H' := Aside0.mk H
                 clear H
                 have hcz26_0 : wr.cell? ⟨gb103, 0, none⟩ = some (.int .i64 x104000_1) := (blk_cell BK103.out 0).trans rfl
                 have hcz26_1 : wr.cell? ⟨gb103, 1, none⟩ = some (.int .i64 x104001_1) := (blk_cell BK103.out 1).trans rfl
                 have hcz26_2 : wr.cell? ⟨gb103, 2, none⟩ = some (.int .i64 x104002_1) := (blk_cell BK103.out 2).trans rfl
                 have hcz26_3 : wr.cell? ⟨gb103, 3, none⟩ = some (.int .i64 x104003_1) := (blk_cell BK103.out 3).trans rfl
                 have hfz26_0 := blk_frozen BK103.out 0
                 have hfz26_1 := blk_frozen BK103.out 1
                 have hfz26_2 := blk_frozen BK103.out 2
                 have hfz26_3 := blk_frozen BK103.out 3
                 go_wp2
                 go_roundg k3
                 case measure => have := HK1.out; have := HK2.out; have := HK3.out; omega
                 case rel => exact ⟨(x5_3), (1 : Int), (by first | rfl | (simp; done) | (simp [*]; done)), (by have H2_ := H'.out; rw [show wrap64 ((0 : Int) + 1) = 1 from by unfold wrap64; omega] at H2_; exact ⟨H2_⟩), ⟨by have := HK1.out; have := HK2.out; have := HK3.out; omega⟩, ⟨krq2 HO_5.out⟩, ⟨kbq2 BK103.out⟩, ⟨lb1q2 HB.out GE103.out⟩⟩
              ·
               skip
               have c20 : ¬ (1 : Int) = (2 : Int) := by decide
               ·
                rw [if_neg c20] at H
                have c20b0 : ((1 : Int) == (2 : Int)) = false := beq_eq_false_iff_ne.mpr c20
                have c20b1 : ((1 : Int) != (2 : Int)) = true := bne_iff_ne.mpr c20
                by_cases c22 : (pk x104000_1 x104001_1 x104002_1 x104003_1 (1 : Int)) = x104002_1
                ·
                 rw [if_pos c22] at H
                 have c22b0 : (x104001_1 == x104002_1) = true := beq_iff_eq.mpr c22
                 have c22b1 : (x104001_1 != x104002_1) = false := bne_eq_false_iff_eq.mpr c22
                 clear c22
                 by_cases c23 : x5_3.length < 17592186044416
                 ·
                  rw [if_pos c23] at H
                  have LMc23 := Aside0.mk c23
                  clear c23
                  obtain ⟨y107, hy107⟩ : ∃ y_ : List Int, y_ = (x5_3 ++ [(1 : Int)]) := ⟨_, rfl⟩
                  replace H : (impl_EndsAfter.l2 k3 y107 (2 : Int) x104002_1 (2 : Int) (wrap64 ((1 : Int) + 1)) x104000_1 x104001_1 x104002_1 x104003_1) = some r := by first | (rw [hy107]; with_reducible exact H) | (have H2_ := (Option.bind_some _ _).symm.trans H; rw [hy107]; with_reducible exact H2_) | (have H2_ := (Option.bind_some _ _).symm.trans H; with_reducible exact H2_) | with_reducible exact H | (rw [hy107]; exact H) | exact H
                  have Ny107 := Aside0.mk hy107
                  clear hy107
                  have H' := Aside0.mk H
                  clear H
                  have hcz24_0 : wr.cell? ⟨gb103, 0, none⟩ = some (.int .i64 x104000_1) := (blk_cell BK103.out 0).trans rfl
                  have hcz24_1 : wr.cell? ⟨gb103, 1, none⟩ = some (.int .i64 x104001_1) := (blk_cell BK103.out 1).trans rfl
                  have hcz24_2 : wr.cell? ⟨gb103, 2, none⟩ = some (.int .i64 x104002_1) := (blk_cell BK103.out 2).trans rfl
                  have hcz24_3 : wr.cell? ⟨gb103, 3, none⟩ = some (.int .i64 x104003_1) := (blk_cell BK103.out 3).trans rfl
                  have hfz24_0 := blk_frozen BK103.out 0
                  have hfz24_1 := blk_frozen BK103.out 1
                  have hfz24_2 := blk_frozen BK103.out 2
                  have hfz24_3 := blk_frozen BK103.out 3
                  go_wp2_with (first | ((with_reducible refine gate_builtin (b := .append) (xs := #[.tmp 57, .tmp 59]) rfl ?_); at_builtin; refine Kd.R_append (Kd.int .i64) (w0 := w) w.heap.size rfl (.tmp 57) (.tmp 59) 34 3 (.int .i64 0) 8 rfl Tryd.underlying34 info3 rfl (by decide) (by omega) u5 x5_3 (1 : Int) [.int .i64 (1 : Int)] (fun _ => True) (fun _ => False) rfl rfl ?aP (fun _ hk => hk.elim) ?aF ?aO ?aB ?aS ?aL ?_; (case aP => exact rfl); (case aB => exact (lb1q2 HB.out GE103.out)); (case aF => exact (fun _ _ => trivial)); (case aO => exact (krq2 HO_5.out)); (case aS => exact (below_size (lb1q2 HB.out GE103.out))); (case aL => have := LMc23.out; omega); intro v108 w25 ho hb hg hat; rw [← Ny107.out] at ho; have n0_ := Aside0.mk (blk_grown (g := gb103) (o := .cells #[.int .i64 x104000_1, .int .i64 x104001_1, .int .i64 x104002_1, .int .i64 x104003_1] 54 (0, 0)) (kbq2 BK103.out) hg (Kd.R_ne HO_5.out BK103.out (by decide))); have n1_ := Aside0.mk (hb); have n2_ := Aside0.mk (ho); clear BK103; clear HB; clear HO_5; have BK103 := n0_; have HB := n1_; have HO109 := n2_; clear n0_ n1_ n2_; clear ho hb hg hat))
                  go_roundg k3
                  case measure => have := HK1.out; have := HK2.out; have := HK3.out; omega
                  case rel => exact ⟨(y107), (2 : Int), (by first | rfl | (simp; done) | (simp [*]; done)), (by have H2_ := H'.out; rw [show wrap64 ((1 : Int) + 1) = 2 from by unfold wrap64; omega] at H2_; exact ⟨H2_⟩), ⟨by have := HK1.out; have := HK2.out; have := HK3.out; omega⟩, ⟨krq2 HO109.out⟩, ⟨kbq2 BK103.out⟩, ⟨lb1q2 HB.out GE103.out⟩⟩
                 ·
                  rw [if_neg c23] at H
                  exact absurd H (by simp)
                ·
                 rw [if_neg c22] at H
                 have c22b0 : (x104001_1 == x104002_1) = false := beq_eq_false_iff_ne.mpr c22
                 have c22b1 : (x104001_1 != x104002_1) = true := bne_iff_ne.mpr c22
                 have H' := Aside0.mk H
                 clear H
                 have hcz26_0 : wr.cell? ⟨gb103, 0, none⟩ = some (.int .i64 x104000_1) := (blk_cell BK103.out 0).trans rfl
                 have hcz26_1 : wr.cell? ⟨gb103, 1, none⟩ = some (.int .i64 x104001_1) := (blk_cell BK103.out 1).trans rfl
                 have hcz26_2 : wr.cell? ⟨gb103, 2, none⟩ = some (.int .i64 x104002_1) := (blk_cell BK103.out 2).trans rfl
                 have hcz26_3 : wr.cell? ⟨gb103, 3, none⟩ = some (.int .i64 x104003_1) := (blk_cell BK103.out 3).trans rfl
                 have hfz26_0 := blk_frozen BK103.out 0
                 have hfz26_1 := blk_frozen BK103.out 1
                 have hfz26_2 := blk_frozen BK103.out 2
                 have hfz26_3 := blk_frozen BK103.out 3
                 go_wp2
                 go_roundg k3
                 case measure => have := HK1.out; have := HK2.out; have := HK3.out; omega
                 case rel => exact ⟨(x5_3), (2 : Int), (by first | rfl | (simp; done) | (simp [*]; done)), (by have H2_ := H'.out; rw [show wrap64 ((1 : Int) + 1) = 2 from by unfold wrap64; omega] at H2_; exact ⟨H2_⟩), ⟨by have := HK1.out; have := HK2.out; have := HK3.out; omega⟩, ⟨krq2 HO_5.out⟩, ⟨kbq2 BK103.out⟩, ⟨lb1q2 HB.out GE103.out⟩⟩
              ·
               skip
               have c20 : (2 : Int) = (2 : Int) := rfl
               ·
                rw [if_pos c20] at H
                have c20b0 : ((2 : Int) == (2 : Int)) = true := beq_iff_eq.mpr c20
                have c20b1 : ((2 : Int) != (2 : Int)) = false := bne_eq_false_iff_eq.mpr c20
                clear c20
                have H' := Aside0.mk H
                clear H
                have hcz21_0 : wr.cell? ⟨gb103, 0, none⟩ = some (.int .i64 x104000_1) := (blk_cell BK103.out 0).trans rfl
                have hcz21_1 : wr.cell? ⟨gb103, 1, none⟩ = some (.int .i64 x104001_1) := (blk_cell BK103.out 1).trans rfl
                have hcz21_2 : wr.cell? ⟨gb103, 2, none⟩ = some (.int .i64 x104002_1) := (blk_cell BK103.out 2).trans rfl
                have hcz21_3 : wr.cell? ⟨gb103, 3, none⟩ = some (.int .i64 x104003_1) := (blk_cell BK103.out 3).trans rfl
                have hfz21_0 := blk_frozen BK103.out 0
                have hfz21_1 := blk_frozen BK103.out 1
                have hfz21_2 := blk_frozen BK103.out 2
                have hfz21_3 := blk_frozen BK103.out 3
                go_wp2
                go_roundg k3
                case measure => have := HK1.out; have := HK2.out; have := HK3.out; omega
                case rel => exact ⟨(x5_3), (3 : Int), (by first | rfl | (simp; done) | (simp [*]; done)), (by have H2_ := H'.out; rw [show wrap64 ((2 : Int) + 1) = 3 from by unfold wrap64; omega] at H2_; exact ⟨H2_⟩), ⟨by have := HK1.out; have := HK2.out; have := HK3.out; omega⟩, ⟨krq2 HO_5.out⟩, ⟨kbq2 BK103.out⟩, ⟨lb1q2 HB.out GE103.out⟩⟩
              ·
               skip
               have c20 : ¬ (3 : Int) = (2 : Int) := by decide
               ·
                rw [if_neg c20] at H
                have c20b0 : ((3 : Int) == (2 : Int)) = false := beq_eq_false_iff_ne.mpr c20
                have c20b1 : ((3 : Int) != (2 : Int)) = true := bne_iff_ne.mpr c20
                by_cases c22 : (pk x104000_1 x104001_1 x104002_1 x104003_1 (3 : Int)) = x104002_1
                ·
                 rw [if_pos c22] at H
                 have c22b0 : (x104003_1 == x104002_1) = true := beq_iff_eq.mpr c22
                 have c22b1 : (x104003_1 != x104002_1) = false := bne_eq_false_iff_eq.mpr c22
                 clear c22
                 by_cases c23 : x5_3.length < 17592186044416
                 ·
                  rw [if_pos c23] at H
                  have LMc23 := Aside0.mk c23
                  clear c23
                  obtain ⟨y107, hy107⟩ : ∃ y_ : List Int, y_ = (x5_3 ++ [(3 : Int)]) := ⟨_, rfl⟩
                  replace H : (impl_EndsAfter.l2 k3 y107 (2 : Int) x104002_1 (2 : Int) (wrap64 ((3 : Int) + 1)) x104000_1 x104001_1 x104002_1 x104003_1) = some r := by first | (rw [hy107]; with_reducible exact H) | (have H2_ := (Option.bind_some _ _).symm.trans H; rw [hy107]; with_reducible exact H2_) | (have H2_ := (Option.bind_some _ _).symm.trans H; with_reducible exact H2_) | with_reducible exact H | (rw [hy107]; exact H) | exact H
                  have Ny107 := Aside0.mk hy107
                  clear hy107
                  have H' := Aside0.mk H
                  clear H
                  have hcz24_0 : wr.cell? ⟨gb103, 0, none⟩ = some (.int .i64 x104000_1) := (blk_cell BK103.out 0).trans rfl
                  have hcz24_1 : wr.cell? ⟨gb103, 1, none⟩ = some (.int .i64 x104001_1) := (blk_cell BK103.out 1).trans rfl
                  have hcz24_2 : wr.cell? ⟨gb103, 2, none⟩ = some (.int .i64 x104002_1) := (blk_cell BK103.out 2).trans rfl
                  have hcz24_3 : wr.cell? ⟨gb103, 3, none⟩ = some (.int .i64 x104003_1) := (blk_cell BK103.out 3).trans rfl
                  have hfz24_0 := blk_frozen BK103.out 0
                  have hfz24_1 := blk_frozen BK103.out 1
                  have hfz24_2 := blk_frozen BK103.out 2
                  have hfz24_3 := blk_frozen BK103.out 3
                  go_wp2_with (first | ((with_reducible refine gate_builtin (b := .append) (xs := #[.tmp 57, .tmp 59]) rfl ?_); at_builtin; refine Kd.R_append (Kd.int .i64) (w0 := w) w.heap.size rfl (.tmp 57) (.tmp 59) 34 3 (.int .i64 0) 8 rfl Tryd.underlying34 info3 rfl (by decide) (by omega) u5 x5_3 (3 : Int) [.int .i64 (3 : Int)] (fun _ => True) (fun _ => False) rfl rfl ?aP (fun _ hk => hk.elim) ?aF ?aO ?aB ?aS ?aL ?_; (case aP => exact rfl); (case aB => exact (lb1q2 HB.out GE103.out)); (case aF => exact (fun _ _ => trivial)); (case aO => exact (krq2 HO_5.out)); (case aS => exact (below_size (lb1q2 HB.out GE103.out))); (case aL => have := LMc23.out; omega); intro v108 w25 ho hb hg hat; rw [← Ny107.out] at ho; have n0_ := Aside0.mk (blk_grown (g := gb103) (o := .cells #[.int .i64 x104000_1, .int .i64 x104001_1, .int .i64 x104002_1, .int .i64 x104003_1] 54 (0, 0)) (kbq2 BK103.out) hg (Kd.R_ne HO_5.out BK103.out (by decide))); have n1_ := Aside0.mk (hb); have n2_ := Aside0.mk (ho); clear BK103; clear HB; clear HO_5; have BK103 := n0_; have HB := n1_; have HO109 := n2_; clear n0_ n1_ n2_; clear ho hb hg hat))
                  go_roundg k3
                  case measure => have := HK1.out; have := HK2.out; have := HK3.out; omega
                  case rel => exact ⟨(y107), (4 : Int), (by first | rfl | (simp; done) | (simp [*]; done)), (by have H2_ := H'.out; rw [show wrap64 ((3 : Int) + 1) = 4 from by unfold wrap64; omega] at H2_; exact ⟨H2_⟩), ⟨by have := HK1.out; have := HK2.out; have := HK3.out; omega⟩, ⟨krq2 HO109.out⟩, ⟨kbq2 BK103.out⟩, ⟨lb1q2 HB.out GE103.out⟩⟩
                 ·
                  rw [if_neg c23] at H
                  exact absurd H (by simp)
                ·
                 rw [if_neg c22] at H
                 have c22b0 : (x104003_1 == x104002_1) = false := beq_eq_false_iff_ne.mpr c22
                 have c22b1 : (x104003_1 != x104002_1) = true := bne_iff_ne.mpr c22
                 have H' := Aside0.mk H
                 clear H
                 have hcz26_0 : wr.cell? ⟨gb103, 0, none⟩ = some (.int .i64 x104000_1) := (blk_cell BK103.out 0).trans rfl
                 have hcz26_1 : wr.cell? ⟨gb103, 1, none⟩ = some (.int .i64 x104001_1) := (blk_cell BK103.out 1).trans rfl
                 have hcz26_2 : wr.cell? ⟨gb103, 2, none⟩ = some (.int .i64 x104002_1) := (blk_cell BK103.out 2).trans rfl
                 have hcz26_3 : wr.cell? ⟨gb103, 3, none⟩ = some (.int .i64 x104003_1) := (blk_cell BK103.out 3).trans rfl
                 have hfz26_0 := blk_frozen BK103.out 0
                 have hfz26_1 := blk_frozen BK103.out 1
                 have hfz26_2 := blk_frozen BK103.out 2
                 have hfz26_3 := blk_frozen BK103.out 3
                 go_wp2
                 go_roundg k3
                 case measure => have := HK1.out; have := HK2.out; have := HK3.out; omega
                 case rel => exact ⟨(x5_3), (4 : Int), (by first | rfl | (simp; done) | (simp [*]; done)), (by have H2_ := H'.out; rw [show wrap64 ((3 : Int) + 1) = 4 from by unfold wrap64; omega] at H2_; exact ⟨H2_⟩), ⟨by have := HK1.out; have := HK2.out; have := HK3.out; omega⟩, ⟨krq2 HO_5.out⟩, ⟨kbq2 BK103.out⟩, ⟨lb1q2 HB.out GE103.out⟩⟩
             ·
              rw [if_neg cz19] at H
              exact absurd H (by simp)
            ·
             rw [if_neg c19] at H
             have c19b0 : decide (x44_3 < 4) = false := decide_eq_false c19
             clear c19
             have H' := Aside0.mk H
             clear H
             go_wp2
             go_roundg k3
             case measure => have := HK1.out; have := HK2.out; have := HK3.out; omega
             case rel => exact ⟨(x5_3), (3 : Int), (by first | rfl | (simp; done) | (simp [*]; done)), (by have H2_ := H'.out; rw [show wrap64 ((2 : Int) + 1) = 3 from by unfold wrap64; omega] at H2_; exact ⟨H2_⟩), ⟨by have := HK1.out; have := HK2.out; have := HK3.out; omega⟩, ⟨krq2 HO_5.out⟩, ⟨kbq2 BK103.out⟩, ⟨lb1q2 HB.out GE103.out⟩⟩
         ·
          skip
          have ix_ : ∀ w : World, (Instr.index 54 (.agg #[.int .i64 x104000_1, .int .i64 x104001_1, .int .i64 x104002_1, .int .i64 x104003_1]) (.int .i64 3)).run Tryd.prog w = .ok (.int .i64 x104003_1) w := fun _ => by kernel_rfl
          have H' := Aside0.mk H
          clear H
          have hcz18_0 : wr.cell? ⟨gb103, 0, none⟩ = some (.int .i64 x104000_1) := (blk_cell BK103.out 0).trans rfl
          have hcz18_1 : wr.cell? ⟨gb103, 1, none⟩ = some (.int .i64 x104001_1) := (blk_cell BK103.out 1).trans rfl
          have hcz18_2 : wr.cell? ⟨gb103, 2, none⟩ = some (.int .i64 x104002_1) := (blk_cell BK103.out 2).trans rfl
          have hcz18_3 : wr.cell? ⟨gb103, 3, none⟩ = some (.int .i64 x104003_1) := (blk_cell BK103.out 3).trans rfl
          have hfz18_0 := blk_frozen BK103.out 0
          have hfz18_1 := blk_frozen BK103.out 1
          have hfz18_2 := blk_frozen BK103.out 2
          have hfz18_3 := blk_frozen BK103.out 3
          go_wp2
          go_loopg [5, 44] k2 (fun kq v5 v44 w' => ∃ (x5_3 : List Int) (x44_3 : Int), v44 = .int .i64 x44_3 ∧ Aside0 (impl_EndsAfter.l2 kq x5_3 (3 : Int) x104003_1 (3 : Int) x44_3 x104000_1 x104001_1 x104002_1 x104003_1 = some r) ∧ Aside0 (kq ≤ k2) ∧ Aside0 (Kd.R (Kd.int .i64) 3 w' w.heap.size (fun _ => True) v5 x5_3) ∧ Aside0 (w'.heap[gb103]? = some (.cells #[.int .i64 x104000_1, .int .i64 x104001_1, .int .i64 x104002_1, .int .i64 x104003_1] 54 (0, 0))) ∧ Aside0 (Below w.heap.size w w'))
          case atStart => exact ⟨(x5_2), (0), (by first | rfl | (simp; done) | (simp [*]; done)), H', ⟨Nat.le_refl _⟩, ⟨krq2 HO_5.out⟩, ⟨kbq2 BK103.out⟩, ⟨lb1q2 HB.out GE103.out⟩⟩
          case round =>
           clear H'; (try clear c1); (try clear p1); (try clear q1); (try clear hx1); (try clear p2); (try clear c3); (try clear c5); (try clear p6); (try clear c7); (try clear c7b0); (try clear c8); (try clear c8b0); (try clear c9); (try clear c9b0); (try clear p10); (try clear q10); (try clear hx10); (try clear c11); (try clear c11b0); (try clear c11b1); (try clear c17); (try clear c17b0); (try clear hcz12_0); (try clear hcz12_1); (try clear hcz12_2); (try clear hcz12_3); (try clear hcz13_0); (try clear hcz13_1); (try clear hcz13_2); (try clear hcz13_3); (try clear hcz16_0); (try clear hcz16_1); (try clear hcz16_2); (try clear hcz16_3); (try clear hcz18_0); (try clear hcz18_1); (try clear hcz18_2); (try clear hcz18_3); (try clear hcz6_0); (try clear hcz6_1); (try clear hcz6_2); (try clear hcz6_3); (try clear hfz12_0); (try clear hfz12_1); (try clear hfz12_2); (try clear hfz12_3); (try clear hfz13_0); (try clear hfz13_1); (try clear hfz13_2); (try clear hfz13_3); (try clear hfz16_0); (try clear hfz16_1); (try clear hfz16_2); (try clear hfz16_3); (try clear hfz18_0); (try clear hfz18_1); (try clear hfz18_2); (try clear hfz18_3); (try clear hfz6_0); (try clear hfz6_1); (try clear hfz6_2); (try clear hfz6_3); (try clear p1); (try clear p10); (try clear p2); (try clear p6); (try clear q1); (try clear q10)
           obtain ⟨x5_3, x44_3, rfl, HA, HK3, HO_5, BK103, HB⟩ := hrel
           cases gk with
           | zero => exact absurd HA.out (by simp [impl_EndsAfter.l2])
           | succ k3 =>
            have H := HA.out
            clear HA
            simp only [impl_EndsAfter.l2] at H
            by_cases c19 : x44_3 < 4
            ·
             rw [if_pos c19] at H
             have c19b0 : decide (x44_3 < 4) = true := decide_eq_true c19
             by_cases cz19 : 0 ≤ x44_3
             ·
              rw [if_pos cz19] at H
              have hj_ : x44_3 = 0 ∨ x44_3 = 1 ∨ x44_3 = 2 ∨ x44_3 = 3 := by omega
              clear c19 cz19 c19b0
              rcases hj_ with rfl | rfl | rfl | rfl
              ·
               skip
               have c20 : ¬ (0 : Int) = (3 : Int) := by decide
               ·
                rw [if_neg c20] at H
                have c20b0 : ((0 : Int) == (3 : Int)) = false := beq_eq_false_iff_ne.mpr c20
                have c20b1 : ((0 : Int) != (3 : Int)) = true := bne_iff_ne.mpr c20
                by_cases c22 : (pk x104000_1 x104001_1 x104002_1 x104003_1 (0 : Int)) = x104003_1
                ·
                 rw [if_pos c22] at H
                 have c22b0 : (x104000_1 == x104003_1) = true := beq_iff_eq.mpr c22
                 have c22b1 : (x104000_1 != x104003_1) = false := bne_eq_false_iff_eq.mpr c22
                 clear c22
                 by_cases c23 : x5_3.length < 17592186044416
                 ·
                  rw [if_pos c23] at H
                  have LMc23 := Aside0.mk c23
                  clear c23
                  obtain ⟨y107, hy107⟩ : ∃ y_ : List Int, y_ = (x5_3 ++ [(0 : Int)]) := ⟨_, rfl⟩
                  replace H : (impl_EndsAfter.l2 k3 y107 (3 : Int) x104003_1 (3 : Int) (wrap64 ((0 : Int) + 1)) x104000_1 x104001_1 x104002_1 x104003_1) = some r := by first | (rw [hy107]; with_reducible exact H) | (have H2_ := (Option.bind_some _ _).symm.trans H; rw [hy107]; with_reducible exact H2_) | (have H2_ := (Option.bind_some _ _).symm.trans H; with_reducible exact H2_) | with_reducible exact H | (rw [hy107]; exact H) | exact H
                  have Ny107 := Aside0.mk hy107
                  clear hy107
                  have H' := Aside0.mk H
                  clear H
                  have hcz24_0 : wr.cell? ⟨gb103, 0, none⟩ = some (.int .i64 x104000_1) := (blk_cell BK103.out 0).trans rfl
                  have hcz24_1 : wr.cell? ⟨gb103, 1, none⟩ = some (.int .i64 x104001_1) := (blk_cell BK103.out 1).trans rfl
                  have hcz24_2 : wr.cell? ⟨gb103, 2, none⟩ = some (.int .i64 x104002_1) := (blk_cell BK103.out 2).trans rfl
                  have hcz24_3 : wr.cell? ⟨gb103, 3, none⟩ = some (.int .i64 x104003_1) := (blk_cell BK103.out 3).trans rfl
                  have hfz24_0 := blk_frozen BK103.out 0
                  have hfz24_1 := blk_frozen BK103.out 1
                  have hfz24_2 := blk_frozen BK103.out 2
                  have hfz24_3 := blk_frozen BK103.out 3
                  go_wp2_with (first | ((with_reducible refine gate_builtin (b := .append) (xs := #[.tmp 57, .tmp 59]) rfl ?_); at_builtin; refine Kd.R_append (Kd.int .i64) (w0 := w) w.heap.size rfl (.tmp 57) (.tmp 59) 34 3 (.int .i64 0) 8 rfl Tryd.underlying34 info3 rfl (by decide) (by omega) u5 x5_3 (0 : Int) [.int .i64 (0 : Int)] (fun _ => True) (fun _ => False) rfl rfl ?aP (fun _ hk => hk.elim) ?aF ?aO ?aB ?aS ?aL ?_; (case aP => exact rfl); (case aB => exact (lb1q2 HB.out GE103.out)); (case aF => exact (fun _ _ => trivial)); (case aO => exact (krq2 HO_5.out)); (case aS => exact (below_size (lb1q2 HB.out GE103.out))); (case aL => have := LMc23.out; omega); intro v108 w25 ho hb hg hat; rw [← Ny107.out] at ho; have n0_ := Aside0.mk (blk_grown (g := gb103) (o := .cells #[.int .i64 x104000_1, .int .i64 x104001_1, .int .i64 x104002_1, .int .i64 x104003_1] 54 (0, 0)) (kbq2 BK103.out) hg (Kd.R_ne HO_5.out BK103.out (by decide))); have n1_ := Aside0.mk (hb); have n2_ := Aside0.mk (ho); clear BK103; clear HB; clear HO_5; have BK103 := n0_; have HB := n1_; have HO109 := n2_; clear n0_ n1_ n2_; clear ho hb hg hat))
                  go_roundg k3
                  case measure => have := HK1.out; have := HK2.out; have := HK3.out; omega
                  case rel => exact ⟨(y107), (1 : Int), (by first | rfl | (simp; done) | (simp [*]; done)), (by have H2_ := H'.out; rw [show wrap64 ((0 : Int) + 1) = 1 from by unfold wrap64; omega] at H2_; exact ⟨H2_⟩), ⟨by have := HK1.out; have := HK2.out; have := HK3.out; omega⟩, ⟨krq2 HO109.out⟩, ⟨kbq2 BK103.out⟩, ⟨lb1q2 HB.out GE103.out⟩⟩
                 ·
                  rw [if_neg c23] at H
                  exact absurd H (by simp)
                ·
                 rw [if_neg c22] at H
                 have c22b0 : (x104000_1 == x104003_1) = false := beq_eq_false_iff_ne.mpr c22
                 have c22b1 : (x104000_1 != x104003_1) = true := bne_iff_ne.mpr c22
                 have H' := Aside0.mk H
                 clear H
                 have hcz26_0 : wr.cell? ⟨gb103, 0, none⟩ = some (.int .i64 x104000_1) := (blk_cell BK103.out 0).trans rfl
                 have hcz26_1 : wr.cell? ⟨gb103, 1, none⟩ = some (.int .i64 x104001_1) := (blk_cell BK103.out 1).trans rfl
                 have hcz26_2 : wr.cell? ⟨gb103, 2, none⟩ = some (.int .i64 x104002_1) := (blk_cell BK103.out 2).trans rfl
                 have hcz26_3 : wr.cell? ⟨gb103, 3, none⟩ = some (.int .i64 x104003_1) := (blk_cell BK103.out 3).trans rfl
                 have hfz26_0 := blk_frozen BK103.out 0
                 have hfz26_1 := blk_frozen BK103.out 1
                 have hfz26_2 := blk_frozen BK103.out 2
                 have hfz26_3 := blk_frozen BK103.out 3
                 go_wp2
                 go_roundg k3
                 case measure => have := HK1.out; have := HK2.out; have := HK3.out; omega
                 case rel => exact ⟨(x5_3), (1 : Int), (by first | rfl | (simp; done) | (simp [*]; done)), (by have H2_ := H'.out; rw [show wrap64 ((0 : Int) + 1) = 1 from by unfold wrap64; omega] at H2_; exact ⟨H2_⟩), ⟨by have := HK1.out; have := HK2.out; have := HK3.out; omega⟩, ⟨krq2 HO_5.out⟩, ⟨kbq2 BK103.out⟩, ⟨lb1q2 HB.out GE103.out⟩⟩
              ·
               skip
               have c20 : ¬ (1 : Int) = (3 : Int) := by decide
               ·
                rw [if_neg c20] at H
                have c20b0 : ((1 : Int) == (3 : Int)) = false := beq_eq_false_iff_ne.mpr c20
                have c20b1 : ((1 : Int) != (3 : Int)) = true := bne_iff_ne.mpr c20
                by_cases c22 : (pk x104000_1 x104001_1 x104002_1 x104003_1 (1 : Int)) = x104003_1
                ·
                 rw [if_pos c22] at H
                 have c22b0 : (x104001_1 == x104003_1) = true := beq_iff_eq.mpr c22
                 have c22b1 : (x104001_1 != x104003_1) = false := bne_eq_false_iff_eq.mpr c22
                 clear c22
                 by_cases c23 : x5_3.length < 17592186044416
                 ·
                  rw [if_pos c23] at H
                  have LMc23 := Aside0.mk c23
                  clear c23
                  obtain ⟨y107, hy107⟩ : ∃ y_ : List Int, y_ = (x5_3 ++ [(1 : Int)]) := ⟨_, rfl⟩
                  replace H : (impl_EndsAfter.l2 k3 y107 (3 : Int) x104003_1 (3 : Int) (wrap64 ((1 : Int) + 1)) x104000_1 x104001_1 x104002_1 x104003_1) = some r := by first | (rw [hy107]; with_reducible exact H) | (have H2_ := (Option.bind_some _ _).symm.trans H; rw [hy107]; with_reducible exact H2_) | (have H2_ := (Option.bind_some _ _).symm.trans H; with_reducible exact H2_) | with_reducible exact H | (rw [hy107]; exact H) | exact H
                  have Ny107 := Aside0.mk hy107
                  clear hy107
                  have H' := Aside0.mk H
                  clear H
                  have hcz24_0 : wr.cell? ⟨gb103, 0, none⟩ = some (.int .i64 x104000_1) := (blk_cell BK103.out 0).trans rfl
                  have hcz24_1 : wr.cell? ⟨gb103, 1, none⟩ = some (.int .i64 x104001_1) := (blk_cell BK103.out 1).trans rfl
                  have hcz24_2 : wr.cell? ⟨gb103, 2, none⟩ = some (.int .i64 x104002_1) := (blk_cell BK103.out 2).trans rfl
                  have hcz24_3 : wr.cell? ⟨gb103, 3, none⟩ = some (.int .i64 x104003_1) := (blk_cell BK103.out 3).trans rfl
                  have hfz24_0 := blk_frozen BK103.out 0
                  have hfz24_1 := blk_frozen BK103.out 1
                  have hfz24_2 := blk_frozen BK103.out 2
                  have hfz24_3 := blk_frozen BK103.out 3
                  go_wp2_with (first | ((with_reducible refine gate_builtin (b := .append) (xs := #[.tmp 57, .tmp 59]) rfl ?_); at_builtin; refine Kd.R_append (Kd.int .i64) (w0 := w) w.heap.size rfl (.tmp 57) (.tmp 59) 34 3 (.int .i64 0) 8 rfl Tryd.underlying34 info3 rfl (by decide) (by omega) u5 x5_3 (1 : Int) [.int .i64 (1 : Int)] (fun _ => True) (fun _ => False) rfl rfl ?aP (fun _ hk => hk.elim) ?aF ?aO ?aB ?aS ?aL ?_; (case aP => exact rfl); (case aB => exact (lb1q2 HB.out GE103.out)); (case aF => exact (fun _ _ => trivial)); (case aO => exact (krq2 HO_5.out)); (case aS => exact (below_size (lb1q2 HB.out GE103.out))); (case aL => have := LMc23.out; omega); intro v108 w25 ho hb hg hat; rw [← Ny107.out] at ho; have n0_ := Aside0.mk (blk_grown (g := gb103) (o := .cells #[.int .i64 x104000_1, .int .i64 x104001_1, .int .i64 x104002_1, .int .i64 x104003_1] 54 (0, 0)) (kbq2 BK103.out) hg (Kd.R_ne HO_5.out BK103.out (by decide))); have n1_ := Aside0.mk (hb); have n2_ := Aside0.mk (ho); clear BK103; clear HB; clear HO_5; have BK103 := n0_; have HB := n1_; have HO109 := n2_; clear n0_ n1_ n2_; clear ho hb hg hat))
                  go_roundg k3
                  case measure => have := HK1.out; have := HK2.out; have := HK3.out; omega
                  case rel => exact ⟨(y107), (2 : Int), (by first | rfl | (simp; done) | (simp [*]; done)), (by have H2_ := H'.out; rw [show wrap64 ((1 : Int) + 1) = 2 from by unfold wrap64; omega] at H2_; exact ⟨H2_⟩), ⟨by have := HK1.out; have := HK2.out; have := HK3.out; omega⟩, ⟨krq2 HO109.out⟩, ⟨kbq2 BK103.out⟩, ⟨lb1q2 HB.out GE103.out⟩⟩
                 ·
                  rw [if_neg c23] at H
                  exact absurd H (by simp)
                ·
                 rw [if_neg c22] at H
                 have c22b0 : (x104001_1 == x104003_1) = false := beq_eq_false_iff_ne.mpr c22
                 have c22b1 : (x104001_1 != x104003_1) = true := bne_iff_ne.mpr c22
                 have H' := Aside0.mk H
                 clear H
                 have hcz26_0 : wr.cell? ⟨gb103, 0, none⟩ = some (.int .i64 x104000_1) := (blk_cell BK103.out 0).trans rfl
                 have hcz26_1 : wr.cell? ⟨gb103, 1, none⟩ = some (.int .i64 x104001_1) := (blk_cell BK103.out 1).trans rfl
                 have hcz26_2 : wr.cell? ⟨gb103, 2, none⟩ = some (.int .i64 x104002_1) := (blk_cell BK103.out 2).trans rfl
                 have hcz26_3 : wr.cell? ⟨gb103, 3, none⟩ = some (.int .i64 x104003_1) := (blk_cell BK103.out 3).trans rfl
                 have hfz26_0 := blk_frozen BK103.out 0
                 have hfz26_1 := blk_frozen BK103.out 1
                 have hfz26_2 := blk_frozen BK103.out 2
                 have hfz26_3 := blk_frozen BK103.out 3
                 go_wp2
                 go_roundg k3
                 case measure => have := HK1.out; have := HK2.out; have := HK3.out; omega
                 case rel => exact ⟨(x5_3), (2 : Int), (by first | rfl | (simp; done) | (simp [*]; done)), (by have H2_ := H'.out; rw [show wrap64 ((1 : Int) + 1) = 2 from by unfold wrap64; omega] at H2_; exact ⟨H2_⟩), ⟨by have := HK1.out; have := HK2.out; have := HK3.out; omega⟩, ⟨krq2 HO_5.out⟩, ⟨kbq2 BK103.out⟩, ⟨lb1q2 HB.out GE103.out⟩⟩
              ·
               skip
               have c20 : ¬ (2 : Int) = (3 : Int) := by decide
               ·
                rw [if_neg c20] at H
                have c20b0 : ((2 : Int) == (3 : Int)) = false := beq_eq_false_iff_ne.mpr c20
                have c20b1 : ((2 : Int) != (3 : Int)) = true := bne_iff_ne.mpr c20
                by_cases c22 : (pk x104000_1 x104001_1 x104002_1 x104003_1 (2 : Int)) = x104003_1
                ·
                 rw [if_pos c22] at H
                 have c22b0 : (x104002_1 == x104003_1) = true := beq_iff_eq.mpr c22
                 have c22b1 : (x104002_1 != x104003_1) = false := bne_eq_false_iff_eq.mpr c22
                 clear c22
                 by_cases c23 : x5_3.length < 17592186044416
                 ·
                  rw [if_pos c23] at H
                  have LMc23 := Aside0.mk c23
                  clear c23
                  obtain ⟨y107, hy107⟩ : ∃ y_ : List Int, y_ = (x5_3 ++ [(2 : Int)]) := ⟨_, rfl⟩
                  replace H : (impl_EndsAfter.l2 k3 y107 (3 : Int) x104003_1 (3 : Int) (wrap64 ((2 : Int) + 1)) x104000_1 x104001_1 x104002_1 x104003_1) = some r := by first | (rw [hy107]; with_reducible exact H) | (have H2_ := (Option.bind_some _ _).symm.trans H; rw [hy107]; with_reducible exact H2_) | (have H2_ := (Option.bind_some _ _).symm.trans H; with_reducible exact H2_) | with_reducible exact H | (rw [hy107]; exact H) | exact H
                  have Ny107 := Aside0.mk hy107
                  clear hy107
                  have H' := Aside0.mk H
                  clear H
                  have hcz24_0 : wr.cell? ⟨gb103, 0, none⟩ = some (.int .i64 x104000_1) := (blk_cell BK103.out 0).trans rfl
                  have hcz24_1 : wr.cell? ⟨gb103, 1, none⟩ = some (.int .i64 x104001_1) := (blk_cell BK103.out 1).trans rfl
                  have hcz24_2 : wr.cell? ⟨gb103, 2, none⟩ = some (.int .i64 x104002_1) := (blk_cell BK103.out 2).trans rfl
                  have hcz24_3 : wr.cell? ⟨gb103, 3, none⟩ = some (.int .i64 x104003_1) := (blk_cell BK103.out 3).trans rfl
                  have hfz24_0 := blk_frozen BK103.out 0
                  have hfz24_1 := blk_frozen BK103.out 1
                  have hfz24_2 := blk_frozen BK103.out 2
                  have hfz24_3 := blk_frozen BK103.out 3
                  go_wp2_with (first | ((with_reducible refine gate_builtin (b := .append) (xs := #[.tmp 57, .tmp 59]) rfl ?_); at_builtin; refine Kd.R_append (Kd.int .i64) (w0 := w) w.heap.size rfl (.tmp 57) (.tmp 59) 34 3 (.int .i64 0) 8 rfl Tryd.underlying34 info3 rfl (by decide) (by omega) u5 x5_3 (2 : Int) [.int .i64 (2 : Int)] (fun _ => True) (fun _ => False) rfl rfl ?aP (fun _ hk => hk.elim) ?aF ?aO ?aB ?aS ?aL ?_; (case aP => exact rfl); (case aB => exact (lb1q2 HB.out GE103.out)); (case aF => exact (fun _ _ => trivial)); (case aO => exact (krq2 HO_5.out)); (case aS => exact (below_size (lb1q2 HB.out GE103.out))); (case aL => have := LMc23.out; omega); intro v108 w25 ho hb hg hat; rw [← Ny107.out] at ho; have n0_ := Aside0.mk (blk_grown (g := gb103) (o := .cells #[.int .i64 x104000_1, .int .i64 x104001_1, .int .i64 x104002_1, .int .i64 x104003_1] 54 (0, 0)) (kbq2 BK103.out) hg (Kd.R_ne HO_5.out BK103.out (by decide))); have n1_ := Aside0.mk (hb); have n2_ := Aside0.mk (ho); clear BK103; clear HB; clear HO_5; have BK103 := n0_; have HB := n1_; have HO109 := n2_; clear n0_ n1_ n2_; clear ho hb hg hat))
                  go_roundg k3
                  case measure => have := HK1.out; have := HK2.out; have := HK3.out; omega
                  case rel => exact ⟨(y107), (3 : Int), (by first | rfl | (simp; done) | (simp [*]; done)), (by have H2_ := H'.out; rw [show wrap64 ((2 : Int) + 1) = 3 from by unfold wrap64; omega] at H2_; exact ⟨H2_⟩), ⟨by have := HK1.out; have := HK2.out; have := HK3.out; omega⟩, ⟨krq2 HO109.out⟩, ⟨kbq2 BK103.out⟩, ⟨lb1q2 HB.out GE103.out⟩⟩
                 ·
                  rw [if_neg c23] at H
                  exact absurd H (by simp)
                ·
                 rw [if_neg c22] at H
                 have c22b0 : (x104002_1 == x104003_1) = false := beq_eq_false_iff_ne.mpr c22
                 have c22b1 : (x104002_1 != x104003_1) = true := bne_iff_ne.mpr c22
                 have H' := Aside0.mk H
                 clear H
                 have hcz26_0 : wr.cell? ⟨gb103, 0, none⟩ = some (.int .i64 x104000_1) := (blk_cell BK103.out 0).trans rfl
                 have hcz26_1 : wr.cell? ⟨gb103, 1, none⟩ = some (.int .i64 x104001_1) := (blk_cell BK103.out 1).trans rfl
                 have hcz26_2 : wr.cell? ⟨gb103, 2, none⟩ = some (.int .i64 x104002_1) := (blk_cell BK103.out 2).trans rfl
                 have hcz26_3 : wr.cell? ⟨gb103, 3, none⟩ = some (.int .i64 x104003_1) := (blk_cell BK103.out 3).trans rfl
                 have hfz26_0 := blk_frozen BK103.out 0
                 have hfz26_1 := blk_frozen BK103.out 1
                 have hfz26_2 := blk_frozen BK103.out 2
                 have hfz26_3 := blk_frozen BK103.out 3
                 go_wp2
                 go_roundg k3
                 case measure => have := HK1.out; have := HK2.out; have := HK3.out; omega
                 case rel => exact ⟨(x5_3), (3 : Int), (by first | rfl | (simp; done) | (simp [*]; done)), (by have H2_ := H'.out; rw [show wrap64 ((2 : Int) + 1) = 3 from by unfold wrap64; omega] at H2_; exact ⟨H2_⟩), ⟨by have := HK1.out; have := HK2.out; have := HK3.out; omega⟩, ⟨krq2 HO_5.out⟩, ⟨kbq2 BK103.out⟩, ⟨lb1q2 HB.out GE103.out⟩⟩
              ·
               skip
               have c20 : (3 : Int) = (3 : Int) := rfl
               ·
                rw [if_pos c20] at H
                have c20b0 : ((3 : Int) == (3 : Int)) = true := beq_iff_eq.mpr c20
                have c20b1 : ((3 : Int) != (3 : Int)) = false := bne_eq_false_iff_eq.mpr c20
                clear c20
                have H' := Aside0.mk H
                clear H
                have hcz21_0 : wr.cell? ⟨gb103, 0, none⟩ = some (.int .i64 x104000_1) := (blk_cell BK103.out 0).trans rfl
                have hcz21_1 : wr.cell? ⟨gb103, 1, none⟩ = some (.int .i64 x104001_1) := (blk_cell BK103.out 1).trans rfl
                have hcz21_2 : wr.cell? ⟨gb103, 2, none⟩ = some (.int .i64 x104002_1) := (blk_cell BK103.out 2).trans rfl
                have hcz21_3 : wr.cell? ⟨gb103, 3, none⟩ = some (.int .i64 x104003_1) := (blk_cell BK103.out 3).trans rfl
                have hfz21_0 := blk_frozen BK103.out 0
                have hfz21_1 := blk_frozen BK103.out 1
                have hfz21_2 := blk_frozen BK103.out 2
                have hfz21_3 := blk_frozen BK103.out 3
                go_wp2
                go_roundg k3
                case measure => have := HK1.out; have := HK2.out; have := HK3.out; omega
                case rel => exact ⟨(x5_3), (4 : Int), (by first | rfl | (simp; done) | (simp [*]; done)), (by have H2_ := H'.out; rw [show wrap64 ((3 : Int) + 1) = 4 from by unfold wrap64; omega] at H2_; exact ⟨H2_⟩), ⟨by have := HK1.out; have := HK2.out; have := HK3.out; omega⟩, ⟨krq2 HO_5.out⟩, ⟨kbq2 BK103.out⟩, ⟨lb1q2 HB.out GE103.out⟩⟩
             ·
              rw [if_neg cz19] at H
              exact absurd H (by simp)
            ·
             rw [if_neg c19] at H
             have c19b0 : decide (x44_3 < 4) = false := decide_eq_false c19
             clear c19
             have H' := Aside0.mk H
             clear H
             go_wp2
             go_roundg k3
             case measure => have := HK1.out; have := HK2.out; have := HK3.out; omega
             case rel => exact ⟨(x5_3), (4 : Int), (by first | rfl | (simp; done) | (simp [*]; done)), (by have H2_ := H'.out; rw [show wrap64 ((3 : Int) + 1) = 4 from by unfold wrap64; omega] at H2_; exact ⟨H2_⟩), ⟨by have := HK1.out; have := HK2.out; have := HK3.out; omega⟩, ⟨krq2 HO_5.out⟩, ⟨kbq2 BK103.out⟩, ⟨lb1q2 HB.out GE103.out⟩⟩
        ·
         rw [if_neg cz17] at H
         exact absurd H (by simp)
       ·
        rw [if_neg c17] at H
        have c17b0 : decide (x40_2 < 4) = false := decide_eq_false c17
        clear c17
        obtain rfl := Option.some.inj H
        go_wp2
        go_ret
        exact ⟨_, by first | rfl | (simp [errW_none, errW_some] <;> rfl) | (simp [*, errW_none, errW_some] <;> rfl), by (with_reducible repeat (first | apply Kd.R_alloc | apply Kd.R_drewN | apply Kd.R_drew)); exact HO_5.out, by repeat (first | (with_reducible first | exact HB.out | apply below_alloc | apply pw_below_drewN | apply below_drew1 | refine below_set ?_ GE103.out) | exact HB.out)⟩
 ·
  replace c3 := Bool.eq_false_iff.mpr c3
  subst c3
  have H1 : (some ([] : List Int)) = some r := by rw [if_neg (show ¬ (false = true) by decide)] at H; exact H
  clear H
  have H := H1
  clear H1
  obtain rfl := Option.some.inj H
  go_enter Tryd.func24, Tryd.ntmps24
  go_wp2_with (first | ((with_reducible refine gate_callee (f := 40) rfl ?_); refine goesL_ (some 10) rfl rfl Tryd.func40 (by kernel_rfl) rfl #[.string a0] rfl (by (try simp only [List.map_toArray, List.map_cons, List.map_nil]); first | done | rfl | (simp only [List.length_drop, List.length_take]; rfl)) ?_; (with_reducible refine (impl_isDance.calls a0 false _ A2.out).mono ?_); rintro e w27 ⟨rfl, hb⟩; refine ⟨_, rfl, ?_⟩; have n0_ := Aside0.mk (below_step (lb0q2 HB.out) hb); clear HB; have HB := n0_; clear n0_; (try clear hb); (try clear hb2); (try clear hk); (try clear hi)))
  go_ret
  exact ⟨_, by first | rfl | (simp [errW_none, errW_some] <;> rfl) | (simp [*, errW_none, errW_some] <;> rfl), by first | exact Kd.R_nil _ _ _ _ _ | exact Kd.N_nil _ _ _ _ _ | exact Kd.V_nil _ _ _ _ _ | exact Kd.Q_nil _ _ _ _ _ | exact Kd.S_nil _ _ _ _ _, by repeat (first | (with_reducible first | exact HB.out | apply below_alloc | apply pw_below_drewN | apply below_drew1) | exact HB.out)⟩

end Go.Proofs.YtpjiimlcdifneaaDoor.PFnExactEndsAfter
