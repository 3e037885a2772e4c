/- Walks of functions that the law reaches (lines that the kit's print wrote, over contracts of this session's own). -/
import Derived.Test.YtebihngdlokhfaaDoorPFnNormalOfx0
import Derived.Test.YtebihngdlokhfaaDoorPFnNormalOfx5
import Derived.Test.YtebihngdlokhfaaDoorPFnNormalOfx6
namespace Go.Proofs.YtebihngdlokhfaaDoor.PFnNormalOf
open Go.RowKit Go.Proofs.YtebihngdlokhfaaDoorW.PrintWords Go.Proofs.YtebihngdlokhfaaDoorW.PrintLast Go.Proofs.YtebihngdlokhfaaDoorW.PrintMore
attribute [local go_sem] max2_int min2_int max_two min_two max_three min_three max_four min_four   -- for this text's walks alone
set_option linter.unusedVariables false
set_option linter.unusedSimpArgs false
theorem kbq7 {Q P : Prop} (q : Q) (h : Q → P := by intro q_; (with_reducible repeat (first | refine blk_drewN ?_ _ | refine blk_drew ?_ | refine blk_alloc ?_ _)); exact q_) : P := h q
theorem krq7 {Q P : Prop} (q : Q) (h : Q → P := by intro q_; (with_reducible repeat (first | apply Kd.R_alloc | apply Kd.R_drewN | apply Kd.R_drew)); exact q_) : P := h q
theorem kf1q7 {Q P : Prop} {N0 : Prop} (q : Q) (n0 : N0) (h : Q → N0 → P := by intro q_ m0_; (with_reducible repeat (first | refine blk_drewN ?_ _ | refine blk_drew ?_ | refine blk_alloc ?_ _ | refine blk_far ?_ m0_ _)); exact q_) : P := h q n0
theorem kf2q7 {Q P : Prop} {N0 N1 : Prop} (q : Q) (n0 : N0) (n1 : N1) (h : Q → N0 → N1 → P := by intro q_ m0_ m1_; (with_reducible repeat (first | refine blk_drewN ?_ _ | refine blk_drew ?_ | refine blk_alloc ?_ _ | refine blk_far ?_ m0_ _ | refine blk_far ?_ m1_ _)); exact q_) : P := h q n0 n1
theorem lb0q7 {Q P : Prop} (q : Q)  (h : Q → P := by intro q_ ; repeat (first | (with_reducible first | exact q_ | apply below_alloc | apply pw_below_drewN | apply below_drew1) | exact q_)) : P := h q 
theorem lb1q7 {Q P : Prop} {N0 : Prop} (q : Q) (n0 : N0) (h : Q → N0 → P := by intro q_ m0_; repeat (first | (with_reducible first | exact q_ | apply below_alloc | apply pw_below_drewN | apply below_drew1 | refine below_set ?_ m0_) | exact q_)) : P := h q n0
theorem lb2q7 {Q P : Prop} {N0 N1 : Prop} (q : Q) (n0 : N0) (n1 : N1) (h : Q → N0 → N1 → P := by intro q_ m0_ m1_; repeat (first | (with_reducible first | exact q_ | apply below_alloc | apply pw_below_drewN | apply below_drew1 | refine below_set ?_ m0_ | refine below_set ?_ m1_) | exact q_)) : P := h q n0 n1
theorem lb3q7 {Q P : Prop} {N0 N1 N2 : Prop} (q : Q) (n0 : N0) (n1 : N1) (n2 : N2) (h : Q → N0 → N1 → N2 → P := by intro q_ m0_ m1_ m2_; repeat (first | (with_reducible first | exact q_ | apply below_alloc | apply pw_below_drewN | apply below_drew1 | refine below_set ?_ m0_ | refine below_set ?_ m1_ | refine below_set ?_ m2_) | exact q_)) : P := h q n0 n1 n2
theorem lb4q7 {Q P : Prop} {N0 N1 N2 N3 : Prop} (q : Q) (n0 : N0) (n1 : N1) (n2 : N2) (n3 : N3) (h : Q → N0 → N1 → N2 → N3 → P := by intro q_ m0_ m1_ m2_ m3_; repeat (first | (with_reducible first | exact q_ | apply below_alloc | apply pw_below_drewN | apply below_drew1 | refine below_set ?_ m0_ | refine below_set ?_ m1_ | refine below_set ?_ m2_ | refine below_set ?_ m3_) | exact q_)) : P := h q n0 n1 n2 n3

/-! ### impl_mapOf: function 37 -/
def impl_mapOf.l0 : Nat → ByteArray → Int → Int → Int → Int → Int → Int → Option (Int × Int × Int × Int × Bool)
  | 0, _, _, _, _, _, _, _ => none
  | k + 1, x0, x11, x12, x246000, x246001, x246002, x246003 => if x12 < x11 then (if 0 ≤ x12 then (if x12 < (x0.size : Int) then (if (bt x0 x12) = 84 then ((impl_behind.f k x246000 x246001 x246002 x246003 1 1 0 1).bind fun bt247 => (if bt247.2.2.2.2 = true then (impl_mapOf.l0 k x0 x11 (wrap64 (x12 + 1)) bt247.1 bt247.2.1 bt247.2.2.1 bt247.2.2.2.1) else (some (0, 0, 0, 0, false)))) else (if (bt x0 x12) = 116 then ((impl_behind.f k x246000 x246001 x246002 x246003 1 (-1) 0 1).bind fun bt253 => (if bt253.2.2.2.2 = true then (impl_mapOf.l0 k x0 x11 (wrap64 (x12 + 1)) bt253.1 bt253.2.1 bt253.2.2.1 bt253.2.2.2.1) else (some (0, 0, 0, 0, false)))) else ((impl_behind.f k x246000 x246001 x246002 x246003 0 (-1) 1 0).bind fun bt259 => (if bt259.2.2.2.2 = true then (impl_mapOf.l0 k x0 x11 (wrap64 (x12 + 1)) bt259.1 bt259.2.1 bt259.2.2.1 bt259.2.2.2.1) else (some (0, 0, 0, 0, false)))))) else (none)) else (none)) else (some (x246000, x246001, x246002, x246003, true))
def impl_mapOf.f (k : Nat) (a0 : ByteArray) : Option (Int × Int × Int × Int × Bool) := impl_mapOf.l0 k a0 (a0.size : Int) 0 1 0 0 1
theorem impl_mapOf.mono_l : ∀ k, (∀ y0 y1 y2 y3 y4 y5 y6, LeO (impl_mapOf.l0 k y0 y1 y2 y3 y4 y5 y6) (impl_mapOf.l0 (k + 1) y0 y1 y2 y3 y4 y5 y6))
  | 0 => fun _ _ _ _ _ _ _ r h => by simp [impl_mapOf.l0] at h
  | k + 1 => by
    have ih0 := impl_mapOf.mono_l k
    · intro y0 y1 y2 y3 y4 y5 y6
      unfold impl_mapOf.l0
      repeat' first
      | (with_reducible exact ih0 _ _ _ _ _ _ _)
      | (with_reducible exact impl_behind.mono _ _ _ _ _ _ _ _ _)
      | (with_reducible exact LeO.refl _)
      | (with_reducible exact LeO.none _)
      | (with_reducible refine LeO.ite ?_ ?_)
      | (with_reducible refine LeO.bind ?_ (fun _ => ?_))
      | exact ih0 _ _ _ _ _ _ _
      | exact impl_behind.mono _ _ _ _ _ _ _ _ _
      | exact LeO.none _
      | refine LeO.ite ?_ ?_
      | refine LeO.bind ?_ (fun _ => ?_)
theorem impl_mapOf.mono : ∀ a0 k, LeO (impl_mapOf.f k a0) (impl_mapOf.f (k + 1) a0) := by
  intro a0 k
  have ih0 := impl_mapOf.mono_l k
  unfold impl_mapOf.f
  repeat' first
      | (with_reducible exact ih0 _ _ _ _ _ _ _)
      | (with_reducible exact impl_behind.mono _ _ _ _ _ _ _ _ _)
      | (with_reducible exact LeO.refl _)
      | (with_reducible exact LeO.none _)
      | (with_reducible refine LeO.ite ?_ ?_)
      | (with_reducible refine LeO.bind ?_ (fun _ => ?_))
      | exact ih0 _ _ _ _ _ _ _
      | exact impl_behind.mono _ _ _ _ _ _ _ _ _
      | exact LeO.none _
      | refine LeO.ite ?_ ?_
      | refine LeO.bind ?_ (fun _ => ?_)
set_option maxHeartbeats 8000000 in
set_option maxRecDepth 100000 in
theorem impl_mapOf.calls (k : Nat) (a0 : ByteArray) (r1 : Int) (r2 : Int) (r3 : Int) (r4 : Int) (r5 : Bool) (w : World) (h : impl_mapOf.f k a0 = some (r1, r2, r3, r4, r5)) :
  Calls Tryd.prog 37 #[.string a0] w fun e w' => e = .returned (.tuple #[.agg #[.int .i64 r1, .int .i64 r2, .int .i64 r3, .int .i64 r4], .bool r5]) ∧ Below w.heap.size w w' := by
 have hu34 := Tryd.underlying34
 have HB := Aside0.mk (Below.refl w.heap.size w)
 have H : (impl_mapOf.l0 k a0 (a0.size : Int) 0 1 0 0 1) = some (r1, r2, r3, r4, r5) := h
 clear h
 have H' := Aside0.mk H
 clear H
 go_enter Tryd.func37, Tryd.ntmps37
 go_wp2_with (first | ((with_reducible refine gate_dst (N := 2) rfl ?_); refine box_event ?hg (N := 2) ?hd (cs := #[.int .i64 0, .int .i64 0, .int .i64 0, .int .i64 0]) (t := 34) ?hr ?_; (case hd => rfl); (case hg => rfl); (case hr => first | (go_simp; done) | (go_simp; rfl)); intro gb244 hg w2 hbox hb; have n0_ := Aside0.mk (below_step (lb0q7 HB.out) hb); have n1_ := Aside0.mk (hbox); have n2_ := Aside0.mk ((by rw [hg]; exact (below_size (lb0q7 HB.out)) : w.heap.size ≤ gb244)); have n3_ := Aside0.mk ((by rw [hg]; exact (below_size (lb0q7 HB.out)) : w.heap.size ≤ gb244)); clear HB; have HB := n0_; have BK244 := n1_; have GW244 := n2_; have GE244 := n3_; clear n0_ n1_ n2_ n3_; clear hb hbox hg) | ((with_reducible refine gate_dst (N := 4) rfl ?_); refine box_event ?hg (N := 4) ?hd (cs := #[.int .i64 0, .int .i64 0, .int .i64 0, .int .i64 0]) (t := 34) ?hr ?_; (case hd => rfl); (case hg => rfl); (case hr => first | (go_simp; done) | (go_simp; rfl)); intro gb245 hg w3 hbox hb; have n0_ := Aside0.mk (blk_below (g := gb244) (o := .cells #[.int .i64 0, .int .i64 0, .int .i64 0, .int .i64 0] 34 (0, 0)) (kbq7 BK244.out) hb); have n1_ := Aside0.mk (below_step (lb1q7 HB.out GE244.out) hb); have n2_ := Aside0.mk (hbox); have n3_ := Aside0.mk ((by rw [hg]; exact (below_size (lb1q7 HB.out GE244.out)) : w.heap.size ≤ gb245)); have n4_ := Aside0.mk ((by rw [hg]; exact (below_size (lb1q7 HB.out GE244.out)) : w.heap.size ≤ gb245)); have n5_ := Aside0.mk ((by rw [hg]; exact Nat.ne_of_lt (blk_lt (g := gb244) (o := .cells #[.int .i64 0, .int .i64 0, .int .i64 0, .int .i64 0] 34 (0, 0)) (kbq7 BK244.out)) : gb244 ≠ gb245)); have n6_ := Aside0.mk ((by rw [hg]; exact Nat.ne_of_gt (blk_lt (g := gb244) (o := .cells #[.int .i64 0, .int .i64 0, .int .i64 0, .int .i64 0] 34 (0, 0)) (kbq7 BK244.out)) : gb245 ≠ gb244)); clear BK244; clear HB; have BK244 := n0_; have HB := n1_; have BK245 := n2_; have GW245 := n3_; have GE245 := n4_; have NB244_245 := n5_; have NB245_244 := n6_; clear n0_ n1_ n2_ n3_ n4_ n5_ n6_; clear hb hbox hg; have hnb4 := NB245_244.out; have hnc4 := NB244_245.out; have hcz5_0 : w3.cell? ⟨gb245, 0, none⟩ = some (.int .i64 0) := (blk_cell BK245.out 0).trans rfl; have hcz5_1 : w3.cell? ⟨gb245, 1, none⟩ = some (.int .i64 0) := (blk_cell BK245.out 1).trans rfl; have hcz5_2 : w3.cell? ⟨gb245, 2, none⟩ = some (.int .i64 0) := (blk_cell BK245.out 2).trans rfl; have hcz5_3 : w3.cell? ⟨gb245, 3, none⟩ = some (.int .i64 0) := (blk_cell BK245.out 3).trans rfl; have hfz5_0 := blk_frozen BK245.out 0; have hfz5_1 := blk_frozen BK245.out 1; have hfz5_2 := blk_frozen BK245.out 2; have hfz5_3 := blk_frozen BK245.out 3))
 go_loopg [12] k (fun kq v12 w' => ∃ (x12_1 : Int) (x245000_1 : Int) (x245001_1 : Int) (x245002_1 : Int) (x245003_1 : Int) (x246000_1 : Int) (x246001_1 : Int) (x246002_1 : Int) (x246003_1 : Int), v12 = .int .i64 x12_1 ∧ Aside0 (impl_mapOf.l0 kq a0 (a0.size : Int) x12_1 x246000_1 x246001_1 x246002_1 x246003_1 = some (r1, r2, r3, r4, r5)) ∧ Aside0 (kq ≤ k) ∧ Aside0 (w'.heap[gb244]? = some (.cells #[.int .i64 x245000_1, .int .i64 x245001_1, .int .i64 x245002_1, .int .i64 x245003_1] 34 (0, 0))) ∧ Aside0 (w'.heap[gb245]? = some (.cells #[.int .i64 x246000_1, .int .i64 x246001_1, .int .i64 x246002_1, .int .i64 x246003_1] 34 (0, 0))) ∧ Aside0 (Below w.heap.size w w'))
 case atStart => exact ⟨(0), (0), (0), (0), (0), (1), (0), (0), (1), (by first | rfl | (simp; done) | (simp [*]; done)), H', ⟨Nat.le_refl _⟩, ⟨kf1q7 BK244.out NB244_245.out⟩, ⟨by (with_reducible repeat (first | refine blk_drewN ?_ _ | refine blk_drew ?_ | refine blk_alloc ?_ _)); refine blk_put (cs := #[.int .i64 1, .int .i64 0, .int .i64 0, .int .i64 0]) ?_ 3 _ rfl; (with_reducible repeat (first | refine blk_drewN ?_ _ | refine blk_drew ?_ | refine blk_alloc ?_ _)); refine blk_put (cs := #[.int .i64 1, .int .i64 0, .int .i64 0, .int .i64 0]) ?_ 2 _ rfl; (with_reducible repeat (first | refine blk_drewN ?_ _ | refine blk_drew ?_ | refine blk_alloc ?_ _)); refine blk_put (cs := #[.int .i64 1, .int .i64 0, .int .i64 0, .int .i64 0]) ?_ 1 _ rfl; (with_reducible repeat (first | refine blk_drewN ?_ _ | refine blk_drew ?_ | refine blk_alloc ?_ _)); refine blk_put (cs := #[.int .i64 0, .int .i64 0, .int .i64 0, .int .i64 0]) ?_ 0 _ rfl; (with_reducible repeat (first | refine blk_drewN ?_ _ | refine blk_drew ?_ | refine blk_alloc ?_ _)); exact BK245.out⟩, ⟨lb2q7 HB.out GE244.out GE245.out⟩⟩
 case round =>
  clear H'; (try clear p2); (try clear c3); (try clear c4); (try clear hcz5_0); (try clear hcz5_1); (try clear hcz5_2); (try clear hcz5_3); (try clear hfz5_0); (try clear hfz5_1); (try clear hfz5_2); (try clear hfz5_3)
  obtain ⟨x12_1, x245000_1, x245001_1, x245002_1, x245003_1, x246000_1, x246001_1, x246002_1, x246003_1, rfl, HA, HK1, BK244, BK245, HB⟩ := hrel
  cases gk with
  | zero => exact absurd HA.out (by simp [impl_mapOf.l0])
  | succ k1 =>
   have H := HA.out
   clear HA
   simp only [impl_mapOf.l0] at H
   by_cases c6 : x12_1 < (a0.size : Int)
   ·
    rw [if_pos c6] at H
    have c6b0 : decide (x12_1 < (a0.size : Int)) = true := decide_eq_true c6
    clear c6
    by_cases c7 : 0 ≤ x12_1
    ·
     rw [if_pos c7] at H
     have c7b0 : decide (0 ≤ x12_1) = true := decide_eq_true c7
     clear c7
     by_cases c8 : x12_1 < (a0.size : Int)
     ·
      rw [if_pos c8] at H
      have c8b0 : decide (x12_1 < (a0.size : Int)) = true := decide_eq_true c8
      clear c8
      by_cases c10 : (bt a0 x12_1) = 84
      ·
       rw [if_pos c10] at H
       have c10b0 : ((bt a0 x12_1) == 84) = true := beq_iff_eq.mpr c10
       have c10b1 : ((bt a0 x12_1) != 84) = false := bne_eq_false_iff_eq.mpr c10
       clear c10
       replace H := Option.bind_eq_some_iff.mp H
       obtain ⟨⟨t247, t248, t249, t250, t251⟩, A110, H⟩ := H
       replace H : (if t251 = true then (impl_mapOf.l0 k1 a0 (a0.size : Int) (wrap64 (x12_1 + 1)) t247 t248 t249 t250) else (some (0, 0, 0, 0, false))) = some (r1, r2, r3, r4, r5) := H
       have A11 := Aside0.mk A110
       clear A110
       by_cases c12 : t251 = true
       ·
        subst c12
        have H1 : (impl_mapOf.l0 k1 a0 (a0.size : Int) (wrap64 (x12_1 + 1)) t247 t248 t249 t250) = some (r1, r2, r3, r4, r5) := by rw [if_pos rfl] at H; exact H
        clear H
        have H := H1
        clear H1
        have H' := Aside0.mk H
        clear H
        go_upto_region 11 with ((with_reducible refine gate_dst (N := 6) rfl ?_); refine box_event ?hg (N := 6) ?hd (cs := #[.int .i64 0, .int .i64 0, .int .i64 0, .int .i64 0]) (t := 34) ?hr ?_; (case hd => rfl); (case hg => rfl); (case hr => first | (go_simp; done) | (go_simp; rfl)); intro gb246 hg w13 hbox hb; have n0_ := Aside0.mk (blk_below (g := gb244) (o := .cells #[.int .i64 x245000_1, .int .i64 x245001_1, .int .i64 x245002_1, .int .i64 x245003_1] 34 (0, 0)) (kbq7 BK244.out) hb); have n1_ := Aside0.mk (blk_below (g := gb245) (o := .cells #[.int .i64 x246000_1, .int .i64 x246001_1, .int .i64 x246002_1, .int .i64 x246003_1] 34 (0, 0)) (kbq7 BK245.out) hb); have n2_ := Aside0.mk (below_step (lb2q7 HB.out GE244.out GE245.out) hb); have n3_ := Aside0.mk (hbox); have n4_ := Aside0.mk ((by rw [hg]; exact (below_size (lb2q7 HB.out GE244.out GE245.out)) : w.heap.size ≤ gb246)); have n5_ := Aside0.mk ((by rw [hg]; exact (below_size (lb2q7 HB.out GE244.out GE245.out)) : w.heap.size ≤ gb246)); have n6_ := Aside0.mk ((by rw [hg]; exact Nat.ne_of_lt (blk_lt (g := gb244) (o := .cells #[.int .i64 x245000_1, .int .i64 x245001_1, .int .i64 x245002_1, .int .i64 x245003_1] 34 (0, 0)) (kbq7 BK244.out)) : gb244 ≠ gb246)); have n7_ := Aside0.mk ((by rw [hg]; exact Nat.ne_of_gt (blk_lt (g := gb244) (o := .cells #[.int .i64 x245000_1, .int .i64 x245001_1, .int .i64 x245002_1, .int .i64 x245003_1] 34 (0, 0)) (kbq7 BK244.out)) : gb246 ≠ gb244)); have n8_ := Aside0.mk ((by rw [hg]; exact Nat.ne_of_lt (blk_lt (g := gb245) (o := .cells #[.int .i64 x246000_1, .int .i64 x246001_1, .int .i64 x246002_1, .int .i64 x246003_1] 34 (0, 0)) (kbq7 BK245.out)) : gb245 ≠ gb246)); have n9_ := Aside0.mk ((by rw [hg]; exact Nat.ne_of_gt (blk_lt (g := gb245) (o := .cells #[.int .i64 x246000_1, .int .i64 x246001_1, .int .i64 x246002_1, .int .i64 x246003_1] 34 (0, 0)) (kbq7 BK245.out)) : gb246 ≠ gb245)); clear BK244; clear BK245; clear HB; have BK244 := n0_; have BK245 := n1_; have HB := n2_; have BK246 := n3_; have GW246 := n4_; have GE246 := n5_; have NB244_246 := n6_; have NB246_244 := n7_; have NB245_246 := n8_; have NB246_245 := n9_; clear n0_ n1_ n2_ n3_ n4_ n5_ n6_ n7_ n8_ n9_; clear hb hbox hg; have hnb14 := NB246_244.out; have hnc14 := NB244_246.out; have hnb15 := NB246_245.out; have hnc15 := NB245_246.out; have hcz16_0 : w13.cell? ⟨gb246, 0, none⟩ = some (.int .i64 0) := (blk_cell BK246.out 0).trans rfl; have hcz16_1 : w13.cell? ⟨gb246, 1, none⟩ = some (.int .i64 0) := (blk_cell BK246.out 1).trans rfl; have hcz16_2 : w13.cell? ⟨gb246, 2, none⟩ = some (.int .i64 0) := (blk_cell BK246.out 2).trans rfl; have hcz16_3 : w13.cell? ⟨gb246, 3, none⟩ = some (.int .i64 0) := (blk_cell BK246.out 3).trans rfl; have hfz16_0 := blk_frozen BK246.out 0; have hfz16_1 := blk_frozen BK246.out 1; have hfz16_2 := blk_frozen BK246.out 2; have hfz16_3 := blk_frozen BK246.out 3; have p9 : 0 ≤ (x12_1 : Int) := of_decide_eq_true (by first | (with_reducible assumption) | assumption); have q9 : x12_1 < (a0.size : Int) := of_decide_eq_true (by first | (with_reducible assumption) | assumption); have hx9 := bt_at a0 x12_1; replace p9 := eq_true p9; replace q9 := eq_true q9; have hnb17 := NB245_244.out; have hnc17 := NB244_245.out; have hcz18_0 : w13.cell? ⟨gb245, 0, none⟩ = some (.int .i64 x246000_1) := (blk_cell BK245.out 0).trans rfl; have hcz18_1 : w13.cell? ⟨gb245, 1, none⟩ = some (.int .i64 x246001_1) := (blk_cell BK245.out 1).trans rfl; have hcz18_2 : w13.cell? ⟨gb245, 2, none⟩ = some (.int .i64 x246002_1) := (blk_cell BK245.out 2).trans rfl; have hcz18_3 : w13.cell? ⟨gb245, 3, none⟩ = some (.int .i64 x246003_1) := (blk_cell BK245.out 3).trans rfl; have hfz18_0 := blk_frozen BK245.out 0; have hfz18_1 := blk_frozen BK245.out 1; have hfz18_2 := blk_frozen BK245.out 2; have hfz18_3 := blk_frozen BK245.out 3)
        generalize hq_ : World.setCell _ _ _ = wc
        have mgb244_ : Aside0 (wc.heap[gb244]? = some (.cells #[.int .i64 x245000_1, .int .i64 x245001_1, .int .i64 x245002_1, .int .i64 x245003_1] 34 (0, 0))) := ⟨by rw [← hq_]; exact (kf1q7 BK244.out NB244_246.out)⟩
        have mgb245_ : Aside0 (wc.heap[gb245]? = some (.cells #[.int .i64 x246000_1, .int .i64 x246001_1, .int .i64 x246002_1, .int .i64 x246003_1] 34 (0, 0))) := ⟨by rw [← hq_]; exact (kf1q7 BK245.out NB245_246.out)⟩
        have mgb246_ : Aside0 (wc.heap[gb246]? = some (.cells #[.int .i64 1, .int .i64 1, .int .i64 0, .int .i64 1] 34 (0, 0))) := ⟨by rw [← hq_]; exact (by (with_reducible repeat (first | refine blk_drewN ?_ _ | refine blk_drew ?_ | refine blk_alloc ?_ _)); refine blk_put (cs := #[.int .i64 1, .int .i64 1, .int .i64 0, .int .i64 0]) ?_ 3 _ rfl; (with_reducible repeat (first | refine blk_drewN ?_ _ | refine blk_drew ?_ | refine blk_alloc ?_ _)); refine blk_put (cs := #[.int .i64 1, .int .i64 1, .int .i64 1, .int .i64 0]) ?_ 2 _ rfl; (with_reducible repeat (first | refine blk_drewN ?_ _ | refine blk_drew ?_ | refine blk_alloc ?_ _)); refine blk_put (cs := #[.int .i64 1, .int .i64 (-1), .int .i64 1, .int .i64 0]) ?_ 1 _ rfl; (with_reducible repeat (first | refine blk_drewN ?_ _ | refine blk_drew ?_ | refine blk_alloc ?_ _)); refine blk_put (cs := #[.int .i64 0, .int .i64 (-1), .int .i64 1, .int .i64 0]) ?_ 0 _ rfl; (with_reducible repeat (first | refine blk_drewN ?_ _ | refine blk_drew ?_ | refine blk_alloc ?_ _)); refine blk_put (cs := #[.int .i64 0, .int .i64 (-1), .int .i64 1, .int .i64 0]) ?_ 3 _ rfl; (with_reducible repeat (first | refine blk_drewN ?_ _ | refine blk_drew ?_ | refine blk_alloc ?_ _)); refine blk_put (cs := #[.int .i64 0, .int .i64 (-1), .int .i64 0, .int .i64 0]) ?_ 2 _ rfl; (with_reducible repeat (first | refine blk_drewN ?_ _ | refine blk_drew ?_ | refine blk_alloc ?_ _)); refine blk_put (cs := #[.int .i64 0, .int .i64 0, .int .i64 0, .int .i64 0]) ?_ 1 _ rfl; (with_reducible repeat (first | refine blk_drewN ?_ _ | refine blk_drew ?_ | refine blk_alloc ?_ _)); refine blk_put (cs := #[.int .i64 0, .int .i64 0, .int .i64 0, .int .i64 0]) ?_ 0 _ rfl; (with_reducible repeat (first | refine blk_drewN ?_ _ | refine blk_drew ?_ | refine blk_alloc ?_ _)); exact BK246.out)⟩
        have mHB_ : Aside0 (Below w.heap.size w wc) := ⟨by rw [← hq_]; exact (lb3q7 HB.out GE244.out GE245.out GE246.out)⟩
        clear BK244 BK245 BK246 HB hq_
        have BK244 := mgb244_
        have BK245 := mgb245_
        have BK246 := mgb246_
        have HB := mHB_
        clear mgb244_ mgb245_ mgb246_ mHB_
        have hcxgb244_0 : wc.cell? ⟨gb244, 0, none⟩ = some (.int .i64 x245000_1) := (blk_cell BK244.out 0).trans rfl
        have hfxgb244_0 := blk_frozen BK244.out 0
        have hcxgb244_1 : wc.cell? ⟨gb244, 1, none⟩ = some (.int .i64 x245001_1) := (blk_cell BK244.out 1).trans rfl
        have hfxgb244_1 := blk_frozen BK244.out 1
        have hcxgb244_2 : wc.cell? ⟨gb244, 2, none⟩ = some (.int .i64 x245002_1) := (blk_cell BK244.out 2).trans rfl
        have hfxgb244_2 := blk_frozen BK244.out 2
        have hcxgb244_3 : wc.cell? ⟨gb244, 3, none⟩ = some (.int .i64 x245003_1) := (blk_cell BK244.out 3).trans rfl
        have hfxgb244_3 := blk_frozen BK244.out 3
        have hcxgb245_0 : wc.cell? ⟨gb245, 0, none⟩ = some (.int .i64 x246000_1) := (blk_cell BK245.out 0).trans rfl
        have hfxgb245_0 := blk_frozen BK245.out 0
        have hcxgb245_1 : wc.cell? ⟨gb245, 1, none⟩ = some (.int .i64 x246001_1) := (blk_cell BK245.out 1).trans rfl
        have hfxgb245_1 := blk_frozen BK245.out 1
        have hcxgb245_2 : wc.cell? ⟨gb245, 2, none⟩ = some (.int .i64 x246002_1) := (blk_cell BK245.out 2).trans rfl
        have hfxgb245_2 := blk_frozen BK245.out 2
        have hcxgb245_3 : wc.cell? ⟨gb245, 3, none⟩ = some (.int .i64 x246003_1) := (blk_cell BK245.out 3).trans rfl
        have hfxgb245_3 := blk_frozen BK245.out 3
        have hcxgb246_0 : wc.cell? ⟨gb246, 0, none⟩ = some (.int .i64 1) := (blk_cell BK246.out 0).trans rfl
        have hfxgb246_0 := blk_frozen BK246.out 0
        have hcxgb246_1 : wc.cell? ⟨gb246, 1, none⟩ = some (.int .i64 1) := (blk_cell BK246.out 1).trans rfl
        have hfxgb246_1 := blk_frozen BK246.out 1
        have hcxgb246_2 : wc.cell? ⟨gb246, 2, none⟩ = some (.int .i64 0) := (blk_cell BK246.out 2).trans rfl
        have hfxgb246_2 := blk_frozen BK246.out 2
        have hcxgb246_3 : wc.cell? ⟨gb246, 3, none⟩ = some (.int .i64 1) := (blk_cell BK246.out 3).trans rfl
        have hfxgb246_3 := blk_frozen BK246.out 3
        go_wp2_with (first | ((with_reducible refine gate_callee (f := 61) rfl ?_); refine goesL_ (some 28) rfl rfl Tryd.func61 (by kernel_rfl) rfl #[.agg #[.int .i64 x246000_1, .int .i64 x246001_1, .int .i64 x246002_1, .int .i64 x246003_1], .agg #[.int .i64 1, .int .i64 1, .int .i64 0, .int .i64 1]] rfl (by (try simp only [List.map_toArray, List.map_cons, List.map_nil]); first | done | rfl | (simp only [List.length_drop, List.length_take]; rfl)) ?_; (with_reducible refine (impl_behind.calls k1 x246000_1 x246001_1 x246002_1 x246003_1 1 1 0 1 t247 t248 t249 t250 true _ A11.out).mono ?_); rintro e w19 ⟨rfl, hb⟩; refine ⟨_, rfl, ?_⟩; have n0_ := Aside0.mk (blk_below (g := gb244) (o := .cells #[.int .i64 x245000_1, .int .i64 x245001_1, .int .i64 x245002_1, .int .i64 x245003_1] 34 (0, 0)) (kbq7 BK244.out) hb); have n1_ := Aside0.mk (blk_below (g := gb245) (o := .cells #[.int .i64 x246000_1, .int .i64 x246001_1, .int .i64 x246002_1, .int .i64 x246003_1] 34 (0, 0)) (kbq7 BK245.out) hb); have n2_ := Aside0.mk (blk_below (g := gb246) (o := .cells #[.int .i64 1, .int .i64 1, .int .i64 0, .int .i64 1] 34 (0, 0)) (kbq7 BK246.out) hb); have n3_ := Aside0.mk (below_step (lb3q7 HB.out GE244.out GE245.out GE246.out) hb); clear BK244; clear BK245; clear BK246; clear HB; have BK244 := n0_; have BK245 := n1_; have BK246 := n2_; have HB := n3_; clear n0_ n1_ n2_ n3_; (try clear hb); (try clear hb2); (try clear hk); (try clear hi)) | ((with_reducible refine gate_dst (N := 7) rfl ?_); refine box_event ?hg (N := 7) ?hd (cs := #[.int .i64 0, .int .i64 0, .int .i64 0, .int .i64 0]) (t := 34) ?hr ?_; (case hd => rfl); (case hg => rfl); (case hr => first | (go_simp; done) | (go_simp; rfl)); intro gb252 hg w20 hbox hb; have n0_ := Aside0.mk (blk_below (g := gb244) (o := .cells #[.int .i64 x245000_1, .int .i64 x245001_1, .int .i64 x245002_1, .int .i64 x245003_1] 34 (0, 0)) (kbq7 BK244.out) hb); have n1_ := Aside0.mk (blk_below (g := gb245) (o := .cells #[.int .i64 x246000_1, .int .i64 x246001_1, .int .i64 x246002_1, .int .i64 x246003_1] 34 (0, 0)) (kbq7 BK245.out) hb); have n2_ := Aside0.mk (blk_below (g := gb246) (o := .cells #[.int .i64 1, .int .i64 1, .int .i64 0, .int .i64 1] 34 (0, 0)) (kbq7 BK246.out) hb); have n3_ := Aside0.mk (below_step (lb3q7 HB.out GE244.out GE245.out GE246.out) hb); have n4_ := Aside0.mk (hbox); have n5_ := Aside0.mk ((by rw [hg]; exact (below_size (lb3q7 HB.out GE244.out GE245.out GE246.out)) : w.heap.size ≤ gb252)); have n6_ := Aside0.mk ((by rw [hg]; exact (below_size (lb3q7 HB.out GE244.out GE245.out GE246.out)) : w.heap.size ≤ gb252)); have n7_ := Aside0.mk ((by rw [hg]; exact Nat.ne_of_lt (blk_lt (g := gb244) (o := .cells #[.int .i64 x245000_1, .int .i64 x245001_1, .int .i64 x245002_1, .int .i64 x245003_1] 34 (0, 0)) (kbq7 BK244.out)) : gb244 ≠ gb252)); have n8_ := Aside0.mk ((by rw [hg]; exact Nat.ne_of_gt (blk_lt (g := gb244) (o := .cells #[.int .i64 x245000_1, .int .i64 x245001_1, .int .i64 x245002_1, .int .i64 x245003_1] 34 (0, 0)) (kbq7 BK244.out)) : gb252 ≠ gb244)); have n9_ := Aside0.mk ((by rw [hg]; exact Nat.ne_of_lt (blk_lt (g := gb245) (o := .cells #[.int .i64 x246000_1, .int .i64 x246001_1, .int .i64 x246002_1, .int .i64 x246003_1] 34 (0, 0)) (kbq7 BK245.out)) : gb245 ≠ gb252)); have n10_ := Aside0.mk ((by rw [hg]; exact Nat.ne_of_gt (blk_lt (g := gb245) (o := .cells #[.int .i64 x246000_1, .int .i64 x246001_1, .int .i64 x246002_1, .int .i64 x246003_1] 34 (0, 0)) (kbq7 BK245.out)) : gb252 ≠ gb245)); have n11_ := Aside0.mk ((by rw [hg]; exact Nat.ne_of_lt (blk_lt (g := gb246) (o := .cells #[.int .i64 1, .int .i64 1, .int .i64 0, .int .i64 1] 34 (0, 0)) (kbq7 BK246.out)) : gb246 ≠ gb252)); have n12_ := Aside0.mk ((by rw [hg]; exact Nat.ne_of_gt (blk_lt (g := gb246) (o := .cells #[.int .i64 1, .int .i64 1, .int .i64 0, .int .i64 1] 34 (0, 0)) (kbq7 BK246.out)) : gb252 ≠ gb246)); clear BK244; clear BK245; clear BK246; clear HB; have BK244 := n0_; have BK245 := n1_; have BK246 := n2_; have HB := n3_; have BK252 := n4_; have GW252 := n5_; have GE252 := n6_; have NB244_252 := n7_; have NB252_244 := n8_; have NB245_252 := n9_; have NB252_245 := n10_; have NB246_252 := n11_; have NB252_246 := n12_; clear n0_ n1_ n2_ n3_ n4_ n5_ n6_ n7_ n8_ n9_ n10_ n11_ n12_; clear hb hbox hg; have hnb21 := NB252_244.out; have hnc21 := NB244_252.out; have hnb22 := NB252_245.out; have hnc22 := NB245_252.out; have hnb23 := NB252_246.out; have hnc23 := NB246_252.out; have hcz24_0 : w20.cell? ⟨gb252, 0, none⟩ = some (.int .i64 0) := (blk_cell BK252.out 0).trans rfl; have hcz24_1 : w20.cell? ⟨gb252, 1, none⟩ = some (.int .i64 0) := (blk_cell BK252.out 1).trans rfl; have hcz24_2 : w20.cell? ⟨gb252, 2, none⟩ = some (.int .i64 0) := (blk_cell BK252.out 2).trans rfl; have hcz24_3 : w20.cell? ⟨gb252, 3, none⟩ = some (.int .i64 0) := (blk_cell BK252.out 3).trans rfl; have hfz24_0 := blk_frozen BK252.out 0; have hfz24_1 := blk_frozen BK252.out 1; have hfz24_2 := blk_frozen BK252.out 2; have hfz24_3 := blk_frozen BK252.out 3; have hcz25_0 : w20.cell? ⟨gb245, 0, none⟩ = some (.int .i64 x246000_1) := (blk_cell BK245.out 0).trans rfl; have hcz25_1 : w20.cell? ⟨gb245, 1, none⟩ = some (.int .i64 x246001_1) := (blk_cell BK245.out 1).trans rfl; have hcz25_2 : w20.cell? ⟨gb245, 2, none⟩ = some (.int .i64 x246002_1) := (blk_cell BK245.out 2).trans rfl; have hcz25_3 : w20.cell? ⟨gb245, 3, none⟩ = some (.int .i64 x246003_1) := (blk_cell BK245.out 3).trans rfl; have hfz25_0 := blk_frozen BK245.out 0; have hfz25_1 := blk_frozen BK245.out 1; have hfz25_2 := blk_frozen BK245.out 2; have hfz25_3 := blk_frozen BK245.out 3))
        go_roundg k1
        case measure => have := HK1.out; omega
        case rel => exact ⟨(wrap64 (x12_1 + 1)), (x245000_1), (x245001_1), (x245002_1), (x245003_1), (t247), (t248), (t249), (t250), (by first | rfl | (simp; done) | (simp [*]; done)), H', ⟨by have := HK1.out; omega⟩, ⟨kf2q7 BK244.out NB244_245.out NB244_252.out⟩, ⟨by (with_reducible repeat (first | refine blk_drewN ?_ _ | refine blk_drew ?_ | refine blk_alloc ?_ _)); refine blk_put (cs := #[.int .i64 t247, .int .i64 t248, .int .i64 t249, .int .i64 x246003_1]) ?_ 3 _ rfl; (with_reducible repeat (first | refine blk_drewN ?_ _ | refine blk_drew ?_ | refine blk_alloc ?_ _)); refine blk_put (cs := #[.int .i64 t247, .int .i64 t248, .int .i64 x246002_1, .int .i64 x246003_1]) ?_ 2 _ rfl; (with_reducible repeat (first | refine blk_drewN ?_ _ | refine blk_drew ?_ | refine blk_alloc ?_ _)); refine blk_put (cs := #[.int .i64 t247, .int .i64 x246001_1, .int .i64 x246002_1, .int .i64 x246003_1]) ?_ 1 _ rfl; (with_reducible repeat (first | refine blk_drewN ?_ _ | refine blk_drew ?_ | refine blk_alloc ?_ _)); refine blk_put (cs := #[.int .i64 x246000_1, .int .i64 x246001_1, .int .i64 x246002_1, .int .i64 x246003_1]) ?_ 0 _ rfl; (with_reducible repeat (first | refine blk_drewN ?_ _ | refine blk_drew ?_ | refine blk_alloc ?_ _)); refine blk_far ?_ NB245_252.out _; (with_reducible repeat (first | refine blk_drewN ?_ _ | refine blk_drew ?_ | refine blk_alloc ?_ _)); refine blk_far ?_ NB245_252.out _; (with_reducible repeat (first | refine blk_drewN ?_ _ | refine blk_drew ?_ | refine blk_alloc ?_ _)); refine blk_far ?_ NB245_252.out _; (with_reducible repeat (first | refine blk_drewN ?_ _ | refine blk_drew ?_ | refine blk_alloc ?_ _)); refine blk_far ?_ NB245_252.out _; (with_reducible repeat (first | refine blk_drewN ?_ _ | refine blk_drew ?_ | refine blk_alloc ?_ _)); exact BK245.out⟩, ⟨lb4q7 HB.out GE244.out GE245.out GE246.out GE252.out⟩⟩
       ·
        replace c12 := Bool.eq_false_iff.mpr c12
        subst c12
        have H1 : (some (0, 0, 0, 0, false)) = some (r1, r2, r3, r4, r5) := by rw [if_neg (show ¬ (false = true) by decide)] at H; exact H
        clear H
        have H := H1
        clear H1
        simp only [Option.some.injEq, Prod.mk.injEq] at H
        obtain ⟨rfl, rfl, rfl, rfl, rfl⟩ := H
        go_upto_region 11 with ((with_reducible refine gate_dst (N := 6) rfl ?_); refine box_event ?hg (N := 6) ?hd (cs := #[.int .i64 0, .int .i64 0, .int .i64 0, .int .i64 0]) (t := 34) ?hr ?_; (case hd => rfl); (case hg => rfl); (case hr => first | (go_simp; done) | (go_simp; rfl)); intro gb246 hg w26 hbox hb; have n0_ := Aside0.mk (blk_below (g := gb244) (o := .cells #[.int .i64 x245000_1, .int .i64 x245001_1, .int .i64 x245002_1, .int .i64 x245003_1] 34 (0, 0)) (kbq7 BK244.out) hb); have n1_ := Aside0.mk (blk_below (g := gb245) (o := .cells #[.int .i64 x246000_1, .int .i64 x246001_1, .int .i64 x246002_1, .int .i64 x246003_1] 34 (0, 0)) (kbq7 BK245.out) hb); have n2_ := Aside0.mk (below_step (lb2q7 HB.out GE244.out GE245.out) hb); have n3_ := Aside0.mk (hbox); have n4_ := Aside0.mk ((by rw [hg]; exact (below_size (lb2q7 HB.out GE244.out GE245.out)) : w.heap.size ≤ gb246)); have n5_ := Aside0.mk ((by rw [hg]; exact (below_size (lb2q7 HB.out GE244.out GE245.out)) : w.heap.size ≤ gb246)); have n6_ := Aside0.mk ((by rw [hg]; exact Nat.ne_of_lt (blk_lt (g := gb244) (o := .cells #[.int .i64 x245000_1, .int .i64 x245001_1, .int .i64 x245002_1, .int .i64 x245003_1] 34 (0, 0)) (kbq7 BK244.out)) : gb244 ≠ gb246)); have n7_ := Aside0.mk ((by rw [hg]; exact Nat.ne_of_gt (blk_lt (g := gb244) (o := .cells #[.int .i64 x245000_1, .int .i64 x245001_1, .int .i64 x245002_1, .int .i64 x245003_1] 34 (0, 0)) (kbq7 BK244.out)) : gb246 ≠ gb244)); have n8_ := Aside0.mk ((by rw [hg]; exact Nat.ne_of_lt (blk_lt (g := gb245) (o := .cells #[.int .i64 x246000_1, .int .i64 x246001_1, .int .i64 x246002_1, .int .i64 x246003_1] 34 (0, 0)) (kbq7 BK245.out)) : gb245 ≠ gb246)); have n9_ := Aside0.mk ((by rw [hg]; exact Nat.ne_of_gt (blk_lt (g := gb245) (o := .cells #[.int .i64 x246000_1, .int .i64 x246001_1, .int .i64 x246002_1, .int .i64 x246003_1] 34 (0, 0)) (kbq7 BK245.out)) : gb246 ≠ gb245)); clear BK244; clear BK245; clear HB; have BK244 := n0_; have BK245 := n1_; have HB := n2_; have BK246 := n3_; have GW246 := n4_; have GE246 := n5_; have NB244_246 := n6_; have NB246_244 := n7_; have NB245_246 := n8_; have NB246_245 := n9_; clear n0_ n1_ n2_ n3_ n4_ n5_ n6_ n7_ n8_ n9_; clear hb hbox hg; have hnb27 := NB246_244.out; have hnc27 := NB244_246.out; have hnb28 := NB246_245.out; have hnc28 := NB245_246.out; have hcz29_0 : w26.cell? ⟨gb246, 0, none⟩ = some (.int .i64 0) := (blk_cell BK246.out 0).trans rfl; have hcz29_1 : w26.cell? ⟨gb246, 1, none⟩ = some (.int .i64 0) := (blk_cell BK246.out 1).trans rfl; have hcz29_2 : w26.cell? ⟨gb246, 2, none⟩ = some (.int .i64 0) := (blk_cell BK246.out 2).trans rfl; have hcz29_3 : w26.cell? ⟨gb246, 3, none⟩ = some (.int .i64 0) := (blk_cell BK246.out 3).trans rfl; have hfz29_0 := blk_frozen BK246.out 0; have hfz29_1 := blk_frozen BK246.out 1; have hfz29_2 := blk_frozen BK246.out 2; have hfz29_3 := blk_frozen BK246.out 3; have p9 : 0 ≤ (x12_1 : Int) := of_decide_eq_true (by first | (with_reducible assumption) | assumption); have q9 : x12_1 < (a0.size : Int) := of_decide_eq_true (by first | (with_reducible assumption) | assumption); have hx9 := bt_at a0 x12_1; replace p9 := eq_true p9; replace q9 := eq_true q9; have hnb30 := NB245_244.out; have hnc30 := NB244_245.out; have hcz31_0 : w26.cell? ⟨gb245, 0, none⟩ = some (.int .i64 x246000_1) := (blk_cell BK245.out 0).trans rfl; have hcz31_1 : w26.cell? ⟨gb245, 1, none⟩ = some (.int .i64 x246001_1) := (blk_cell BK245.out 1).trans rfl; have hcz31_2 : w26.cell? ⟨gb245, 2, none⟩ = some (.int .i64 x246002_1) := (blk_cell BK245.out 2).trans rfl; have hcz31_3 : w26.cell? ⟨gb245, 3, none⟩ = some (.int .i64 x246003_1) := (blk_cell BK245.out 3).trans rfl; have hfz31_0 := blk_frozen BK245.out 0; have hfz31_1 := blk_frozen BK245.out 1; have hfz31_2 := blk_frozen BK245.out 2; have hfz31_3 := blk_frozen BK245.out 3)
        generalize hq_ : World.setCell _ _ _ = wc
        have mgb244_ : Aside0 (wc.heap[gb244]? = some (.cells #[.int .i64 x245000_1, .int .i64 x245001_1, .int .i64 x245002_1, .int .i64 x245003_1] 34 (0, 0))) := ⟨by rw [← hq_]; exact (kf1q7 BK244.out NB244_246.out)⟩
        have mgb245_ : Aside0 (wc.heap[gb245]? = some (.cells #[.int .i64 x246000_1, .int .i64 x246001_1, .int .i64 x246002_1, .int .i64 x246003_1] 34 (0, 0))) := ⟨by rw [← hq_]; exact (kf1q7 BK245.out NB245_246.out)⟩
        have mgb246_ : Aside0 (wc.heap[gb246]? = some (.cells #[.int .i64 1, .int .i64 1, .int .i64 0, .int .i64 1] 34 (0, 0))) := ⟨by rw [← hq_]; exact (by (with_reducible repeat (first | refine blk_drewN ?_ _ | refine blk_drew ?_ | refine blk_alloc ?_ _)); refine blk_put (cs := #[.int .i64 1, .int .i64 1, .int .i64 0, .int .i64 0]) ?_ 3 _ rfl; (with_reducible repeat (first | refine blk_drewN ?_ _ | refine blk_drew ?_ | refine blk_alloc ?_ _)); refine blk_put (cs := #[.int .i64 1, .int .i64 1, .int .i64 1, .int .i64 0]) ?_ 2 _ rfl; (with_reducible repeat (first | refine blk_drewN ?_ _ | refine blk_drew ?_ | refine blk_alloc ?_ _)); refine blk_put (cs := #[.int .i64 1, .int .i64 (-1), .int .i64 1, .int .i64 0]) ?_ 1 _ rfl; (with_reducible repeat (first | refine blk_drewN ?_ _ | refine blk_drew ?_ | refine blk_alloc ?_ _)); refine blk_put (cs := #[.int .i64 0, .int .i64 (-1), .int .i64 1, .int .i64 0]) ?_ 0 _ rfl; (with_reducible repeat (first | refine blk_drewN ?_ _ | refine blk_drew ?_ | refine blk_alloc ?_ _)); refine blk_put (cs := #[.int .i64 0, .int .i64 (-1), .int .i64 1, .int .i64 0]) ?_ 3 _ rfl; (with_reducible repeat (first | refine blk_drewN ?_ _ | refine blk_drew ?_ | refine blk_alloc ?_ _)); refine blk_put (cs := #[.int .i64 0, .int .i64 (-1), .int .i64 0, .int .i64 0]) ?_ 2 _ rfl; (with_reducible repeat (first | refine blk_drewN ?_ _ | refine blk_drew ?_ | refine blk_alloc ?_ _)); refine blk_put (cs := #[.int .i64 0, .int .i64 0, .int .i64 0, .int .i64 0]) ?_ 1 _ rfl; (with_reducible repeat (first | refine blk_drewN ?_ _ | refine blk_drew ?_ | refine blk_alloc ?_ _)); refine blk_put (cs := #[.int .i64 0, .int .i64 0, .int .i64 0, .int .i64 0]) ?_ 0 _ rfl; (with_reducible repeat (first | refine blk_drewN ?_ _ | refine blk_drew ?_ | refine blk_alloc ?_ _)); exact BK246.out)⟩
        have mHB_ : Aside0 (Below w.heap.size w wc) := ⟨by rw [← hq_]; exact (lb3q7 HB.out GE244.out GE245.out GE246.out)⟩
        clear BK244 BK245 BK246 HB hq_
        have BK244 := mgb244_
        have BK245 := mgb245_
        have BK246 := mgb246_
        have HB := mHB_
        clear mgb244_ mgb245_ mgb246_ mHB_
        have hcxgb244_0 : wc.cell? ⟨gb244, 0, none⟩ = some (.int .i64 x245000_1) := (blk_cell BK244.out 0).trans rfl
        have hfxgb244_0 := blk_frozen BK244.out 0
        have hcxgb244_1 : wc.cell? ⟨gb244, 1, none⟩ = some (.int .i64 x245001_1) := (blk_cell BK244.out 1).trans rfl
        have hfxgb244_1 := blk_frozen BK244.out 1
        have hcxgb244_2 : wc.cell? ⟨gb244, 2, none⟩ = some (.int .i64 x245002_1) := (blk_cell BK244.out 2).trans rfl
        have hfxgb244_2 := blk_frozen BK244.out 2
        have hcxgb244_3 : wc.cell? ⟨gb244, 3, none⟩ = some (.int .i64 x245003_1) := (blk_cell BK244.out 3).trans rfl
        have hfxgb244_3 := blk_frozen BK244.out 3
        have hcxgb245_0 : wc.cell? ⟨gb245, 0, none⟩ = some (.int .i64 x246000_1) := (blk_cell BK245.out 0).trans rfl
        have hfxgb245_0 := blk_frozen BK245.out 0
        have hcxgb245_1 : wc.cell? ⟨gb245, 1, none⟩ = some (.int .i64 x246001_1) := (blk_cell BK245.out 1).trans rfl
        have hfxgb245_1 := blk_frozen BK245.out 1
        have hcxgb245_2 : wc.cell? ⟨gb245, 2, none⟩ = some (.int .i64 x246002_1) := (blk_cell BK245.out 2).trans rfl
        have hfxgb245_2 := blk_frozen BK245.out 2
        have hcxgb245_3 : wc.cell? ⟨gb245, 3, none⟩ = some (.int .i64 x246003_1) := (blk_cell BK245.out 3).trans rfl
        have hfxgb245_3 := blk_frozen BK245.out 3
        have hcxgb246_0 : wc.cell? ⟨gb246, 0, none⟩ = some (.int .i64 1) := (blk_cell BK246.out 0).trans rfl
        have hfxgb246_0 := blk_frozen BK246.out 0
        have hcxgb246_1 : wc.cell? ⟨gb246, 1, none⟩ = some (.int .i64 1) := (blk_cell BK246.out 1).trans rfl
        have hfxgb246_1 := blk_frozen BK246.out 1
        have hcxgb246_2 : wc.cell? ⟨gb246, 2, none⟩ = some (.int .i64 0) := (blk_cell BK246.out 2).trans rfl
        have hfxgb246_2 := blk_frozen BK246.out 2
        have hcxgb246_3 : wc.cell? ⟨gb246, 3, none⟩ = some (.int .i64 1) := (blk_cell BK246.out 3).trans rfl
        have hfxgb246_3 := blk_frozen BK246.out 3
        go_wp2_with (first | ((with_reducible refine gate_callee (f := 61) rfl ?_); refine goesL_ (some 28) rfl rfl Tryd.func61 (by kernel_rfl) rfl #[.agg #[.int .i64 x246000_1, .int .i64 x246001_1, .int .i64 x246002_1, .int .i64 x246003_1], .agg #[.int .i64 1, .int .i64 1, .int .i64 0, .int .i64 1]] rfl (by (try simp only [List.map_toArray, List.map_cons, List.map_nil]); first | done | rfl | (simp only [List.length_drop, List.length_take]; rfl)) ?_; (with_reducible refine (impl_behind.calls k1 x246000_1 x246001_1 x246002_1 x246003_1 1 1 0 1 t247 t248 t249 t250 false _ A11.out).mono ?_); rintro e w32 ⟨rfl, hb⟩; refine ⟨_, rfl, ?_⟩; have n0_ := Aside0.mk (blk_below (g := gb244) (o := .cells #[.int .i64 x245000_1, .int .i64 x245001_1, .int .i64 x245002_1, .int .i64 x245003_1] 34 (0, 0)) (kbq7 BK244.out) hb); have n1_ := Aside0.mk (blk_below (g := gb245) (o := .cells #[.int .i64 x246000_1, .int .i64 x246001_1, .int .i64 x246002_1, .int .i64 x246003_1] 34 (0, 0)) (kbq7 BK245.out) hb); have n2_ := Aside0.mk (blk_below (g := gb246) (o := .cells #[.int .i64 1, .int .i64 1, .int .i64 0, .int .i64 1] 34 (0, 0)) (kbq7 BK246.out) hb); have n3_ := Aside0.mk (below_step (lb3q7 HB.out GE244.out GE245.out GE246.out) hb); clear BK244; clear BK245; clear BK246; clear HB; have BK244 := n0_; have BK245 := n1_; have BK246 := n2_; have HB := n3_; clear n0_ n1_ n2_ n3_; (try clear hb); (try clear hb2); (try clear hk); (try clear hi)) | ((with_reducible refine gate_dst (N := 7) rfl ?_); refine box_event ?hg (N := 7) ?hd (cs := #[.int .i64 0, .int .i64 0, .int .i64 0, .int .i64 0]) (t := 34) ?hr ?_; (case hd => rfl); (case hg => rfl); (case hr => first | (go_simp; done) | (go_simp; rfl)); intro gb252 hg w33 hbox hb; have n0_ := Aside0.mk (blk_below (g := gb244) (o := .cells #[.int .i64 x245000_1, .int .i64 x245001_1, .int .i64 x245002_1, .int .i64 x245003_1] 34 (0, 0)) (kbq7 BK244.out) hb); have n1_ := Aside0.mk (blk_below (g := gb245) (o := .cells #[.int .i64 x246000_1, .int .i64 x246001_1, .int .i64 x246002_1, .int .i64 x246003_1] 34 (0, 0)) (kbq7 BK245.out) hb); have n2_ := Aside0.mk (blk_below (g := gb246) (o := .cells #[.int .i64 1, .int .i64 1, .int .i64 0, .int .i64 1] 34 (0, 0)) (kbq7 BK246.out) hb); have n3_ := Aside0.mk (below_step (lb3q7 HB.out GE244.out GE245.out GE246.out) hb); have n4_ := Aside0.mk (hbox); have n5_ := Aside0.mk ((by rw [hg]; exact (below_size (lb3q7 HB.out GE244.out GE245.out GE246.out)) : w.heap.size ≤ gb252)); have n6_ := Aside0.mk ((by rw [hg]; exact (below_size (lb3q7 HB.out GE244.out GE245.out GE246.out)) : w.heap.size ≤ gb252)); have n7_ := Aside0.mk ((by rw [hg]; exact Nat.ne_of_lt (blk_lt (g := gb244) (o := .cells #[.int .i64 x245000_1, .int .i64 x245001_1, .int .i64 x245002_1, .int .i64 x245003_1] 34 (0, 0)) (kbq7 BK244.out)) : gb244 ≠ gb252)); have n8_ := Aside0.mk ((by rw [hg]; exact Nat.ne_of_gt (blk_lt (g := gb244) (o := .cells #[.int .i64 x245000_1, .int .i64 x245001_1, .int .i64 x245002_1, .int .i64 x245003_1] 34 (0, 0)) (kbq7 BK244.out)) : gb252 ≠ gb244)); have n9_ := Aside0.mk ((by rw [hg]; exact Nat.ne_of_lt (blk_lt (g := gb245) (o := .cells #[.int .i64 x246000_1, .int .i64 x246001_1, .int .i64 x246002_1, .int .i64 x246003_1] 34 (0, 0)) (kbq7 BK245.out)) : gb245 ≠ gb252)); have n10_ := Aside0.mk ((by rw [hg]; exact Nat.ne_of_gt (blk_lt (g := gb245) (o := .cells #[.int .i64 x246000_1, .int .i64 x246001_1, .int .i64 x246002_1, .int .i64 x246003_1] 34 (0, 0)) (kbq7 BK245.out)) : gb252 ≠ gb245)); have n11_ := Aside0.mk ((by rw [hg]; exact Nat.ne_of_lt (blk_lt (g := gb246) (o := .cells #[.int .i64 1, .int .i64 1, .int .i64 0, .int .i64 1] 34 (0, 0)) (kbq7 BK246.out)) : gb246 ≠ gb252)); have n12_ := Aside0.mk ((by rw [hg]; exact Nat.ne_of_gt (blk_lt (g := gb246) (o := .cells #[.int .i64 1, .int .i64 1, .int .i64 0, .int .i64 1] 34 (0, 0)) (kbq7 BK246.out)) : gb252 ≠ gb246)); clear BK244; clear BK245; clear BK246; clear HB; have BK244 := n0_; have BK245 := n1_; have BK246 := n2_; have HB := n3_; have BK252 := n4_; have GW252 := n5_; have GE252 := n6_; have NB244_252 := n7_; have NB252_244 := n8_; have NB245_252 := n9_; have NB252_245 := n10_; have NB246_252 := n11_; have NB252_246 := n12_; clear n0_ n1_ n2_ n3_ n4_ n5_ n6_ n7_ n8_ n9_ n10_ n11_ n12_; clear hb hbox hg; have hnb34 := NB252_244.out; have hnc34 := NB244_252.out; have hnb35 := NB252_245.out; have hnc35 := NB245_252.out; have hnb36 := NB252_246.out; have hnc36 := NB246_252.out; have hcz37_0 : w33.cell? ⟨gb252, 0, none⟩ = some (.int .i64 0) := (blk_cell BK252.out 0).trans rfl; have hcz37_1 : w33.cell? ⟨gb252, 1, none⟩ = some (.int .i64 0) := (blk_cell BK252.out 1).trans rfl; have hcz37_2 : w33.cell? ⟨gb252, 2, none⟩ = some (.int .i64 0) := (blk_cell BK252.out 2).trans rfl; have hcz37_3 : w33.cell? ⟨gb252, 3, none⟩ = some (.int .i64 0) := (blk_cell BK252.out 3).trans rfl; have hfz37_0 := blk_frozen BK252.out 0; have hfz37_1 := blk_frozen BK252.out 1; have hfz37_2 := blk_frozen BK252.out 2; have hfz37_3 := blk_frozen BK252.out 3; have hcz38_0 : w33.cell? ⟨gb244, 0, none⟩ = some (.int .i64 x245000_1) := (blk_cell BK244.out 0).trans rfl; have hcz38_1 : w33.cell? ⟨gb244, 1, none⟩ = some (.int .i64 x245001_1) := (blk_cell BK244.out 1).trans rfl; have hcz38_2 : w33.cell? ⟨gb244, 2, none⟩ = some (.int .i64 x245002_1) := (blk_cell BK244.out 2).trans rfl; have hcz38_3 : w33.cell? ⟨gb244, 3, none⟩ = some (.int .i64 x245003_1) := (blk_cell BK244.out 3).trans rfl; have hfz38_0 := blk_frozen BK244.out 0; have hfz38_1 := blk_frozen BK244.out 1; have hfz38_2 := blk_frozen BK244.out 2; have hfz38_3 := blk_frozen BK244.out 3))
        refine bodyPost_ret (results_ct rfl _ _ gb244 34 #[.int .i64 0, .int .i64 0, .int .i64 0, .int .i64 0] (0, 0) _ rfl (by (with_reducible repeat (first | refine blk_drewN ?_ _ | refine blk_drew ?_ | refine blk_alloc ?_ _)); refine blk_put (cs := #[.int .i64 0, .int .i64 0, .int .i64 0, .int .i64 x245003_1]) ?_ 3 _ rfl; (with_reducible repeat (first | refine blk_drewN ?_ _ | refine blk_drew ?_ | refine blk_alloc ?_ _)); refine blk_put (cs := #[.int .i64 0, .int .i64 0, .int .i64 x245002_1, .int .i64 x245003_1]) ?_ 2 _ rfl; (with_reducible repeat (first | refine blk_drewN ?_ _ | refine blk_drew ?_ | refine blk_alloc ?_ _)); refine blk_put (cs := #[.int .i64 0, .int .i64 x245001_1, .int .i64 x245002_1, .int .i64 x245003_1]) ?_ 1 _ rfl; (with_reducible repeat (first | refine blk_drewN ?_ _ | refine blk_drew ?_ | refine blk_alloc ?_ _)); refine blk_put (cs := #[.int .i64 x245000_1, .int .i64 x245001_1, .int .i64 x245002_1, .int .i64 x245003_1]) ?_ 0 _ rfl; (with_reducible repeat (first | refine blk_drewN ?_ _ | refine blk_drew ?_ | refine blk_alloc ?_ _)); refine blk_far ?_ NB244_252.out _; (with_reducible repeat (first | refine blk_drewN ?_ _ | refine blk_drew ?_ | refine blk_alloc ?_ _)); refine blk_far ?_ NB244_252.out _; (with_reducible repeat (first | refine blk_drewN ?_ _ | refine blk_drew ?_ | refine blk_alloc ?_ _)); refine blk_far ?_ NB244_252.out _; (with_reducible repeat (first | refine blk_drewN ?_ _ | refine blk_drew ?_ | refine blk_alloc ?_ _)); refine blk_far ?_ NB244_252.out _; (with_reducible repeat (first | refine blk_drewN ?_ _ | refine blk_drew ?_ | refine blk_alloc ?_ _)); exact BK244.out) Tryd.underlying34 rfl (by kernel_rfl)) rfl ?_
        exact ⟨by first | rfl | (simp [errW_none, errW_some] <;> rfl) | (simp [*, errW_none, errW_some] <;> rfl), by repeat (first | (with_reducible first | exact HB.out | apply below_alloc | apply pw_below_drewN | apply below_drew1 | refine below_set ?_ GE244.out | refine below_set ?_ GE245.out | refine below_set ?_ GE246.out | refine below_set ?_ GE252.out) | exact HB.out)⟩
      ·
       rw [if_neg c10] at H
       have c10b0 : ((bt a0 x12_1) == 84) = false := beq_eq_false_iff_ne.mpr c10
       have c10b1 : ((bt a0 x12_1) != 84) = true := bne_iff_ne.mpr c10
       by_cases c39 : (bt a0 x12_1) = 116
       ·
        rw [if_pos c39] at H
        have c39b0 : ((bt a0 x12_1) == 116) = true := beq_iff_eq.mpr c39
        have c39b1 : ((bt a0 x12_1) != 116) = false := bne_eq_false_iff_eq.mpr c39
        clear c39
        replace H := Option.bind_eq_some_iff.mp H
        obtain ⟨⟨t253, t254, t255, t256, t257⟩, A400, H⟩ := H
        replace H : (if t257 = true then (impl_mapOf.l0 k1 a0 (a0.size : Int) (wrap64 (x12_1 + 1)) t253 t254 t255 t256) else (some (0, 0, 0, 0, false))) = some (r1, r2, r3, r4, r5) := H
        have A40 := Aside0.mk A400
        clear A400
        by_cases c41 : t257 = true
        ·
         subst c41
         have H1 : (impl_mapOf.l0 k1 a0 (a0.size : Int) (wrap64 (x12_1 + 1)) t253 t254 t255 t256) = some (r1, r2, r3, r4, r5) := by rw [if_pos rfl] at H; exact H
         clear H
         have H := H1
         clear H1
         have H' := Aside0.mk H
         clear H
         go_upto_region 11 with ((with_reducible refine gate_dst (N := 6) rfl ?_); refine box_event ?hg (N := 6) ?hd (cs := #[.int .i64 0, .int .i64 0, .int .i64 0, .int .i64 0]) (t := 34) ?hr ?_; (case hd => rfl); (case hg => rfl); (case hr => first | (go_simp; done) | (go_simp; rfl)); intro gb246 hg w42 hbox hb; have n0_ := Aside0.mk (blk_below (g := gb244) (o := .cells #[.int .i64 x245000_1, .int .i64 x245001_1, .int .i64 x245002_1, .int .i64 x245003_1] 34 (0, 0)) (kbq7 BK244.out) hb); have n1_ := Aside0.mk (blk_below (g := gb245) (o := .cells #[.int .i64 x246000_1, .int .i64 x246001_1, .int .i64 x246002_1, .int .i64 x246003_1] 34 (0, 0)) (kbq7 BK245.out) hb); have n2_ := Aside0.mk (below_step (lb2q7 HB.out GE244.out GE245.out) hb); have n3_ := Aside0.mk (hbox); have n4_ := Aside0.mk ((by rw [hg]; exact (below_size (lb2q7 HB.out GE244.out GE245.out)) : w.heap.size ≤ gb246)); have n5_ := Aside0.mk ((by rw [hg]; exact (below_size (lb2q7 HB.out GE244.out GE245.out)) : w.heap.size ≤ gb246)); have n6_ := Aside0.mk ((by rw [hg]; exact Nat.ne_of_lt (blk_lt (g := gb244) (o := .cells #[.int .i64 x245000_1, .int .i64 x245001_1, .int .i64 x245002_1, .int .i64 x245003_1] 34 (0, 0)) (kbq7 BK244.out)) : gb244 ≠ gb246)); have n7_ := Aside0.mk ((by rw [hg]; exact Nat.ne_of_gt (blk_lt (g := gb244) (o := .cells #[.int .i64 x245000_1, .int .i64 x245001_1, .int .i64 x245002_1, .int .i64 x245003_1] 34 (0, 0)) (kbq7 BK244.out)) : gb246 ≠ gb244)); have n8_ := Aside0.mk ((by rw [hg]; exact Nat.ne_of_lt (blk_lt (g := gb245) (o := .cells #[.int .i64 x246000_1, .int .i64 x246001_1, .int .i64 x246002_1, .int .i64 x246003_1] 34 (0, 0)) (kbq7 BK245.out)) : gb245 ≠ gb246)); have n9_ := Aside0.mk ((by rw [hg]; exact Nat.ne_of_gt (blk_lt (g := gb245) (o := .cells #[.int .i64 x246000_1, .int .i64 x246001_1, .int .i64 x246002_1, .int .i64 x246003_1] 34 (0, 0)) (kbq7 BK245.out)) : gb246 ≠ gb245)); clear BK244; clear BK245; clear HB; have BK244 := n0_; have BK245 := n1_; have HB := n2_; have BK246 := n3_; have GW246 := n4_; have GE246 := n5_; have NB244_246 := n6_; have NB246_244 := n7_; have NB245_246 := n8_; have NB246_245 := n9_; clear n0_ n1_ n2_ n3_ n4_ n5_ n6_ n7_ n8_ n9_; clear hb hbox hg; have hnb43 := NB246_244.out; have hnc43 := NB244_246.out; have hnb44 := NB246_245.out; have hnc44 := NB245_246.out; have hcz45_0 : w42.cell? ⟨gb246, 0, none⟩ = some (.int .i64 0) := (blk_cell BK246.out 0).trans rfl; have hcz45_1 : w42.cell? ⟨gb246, 1, none⟩ = some (.int .i64 0) := (blk_cell BK246.out 1).trans rfl; have hcz45_2 : w42.cell? ⟨gb246, 2, none⟩ = some (.int .i64 0) := (blk_cell BK246.out 2).trans rfl; have hcz45_3 : w42.cell? ⟨gb246, 3, none⟩ = some (.int .i64 0) := (blk_cell BK246.out 3).trans rfl; have hfz45_0 := blk_frozen BK246.out 0; have hfz45_1 := blk_frozen BK246.out 1; have hfz45_2 := blk_frozen BK246.out 2; have hfz45_3 := blk_frozen BK246.out 3; have p9 : 0 ≤ (x12_1 : Int) := of_decide_eq_true (by first | (with_reducible assumption) | assumption); have q9 : x12_1 < (a0.size : Int) := of_decide_eq_true (by first | (with_reducible assumption) | assumption); have hx9 := bt_at a0 x12_1; replace p9 := eq_true p9; replace q9 := eq_true q9; have hnb46 := NB245_244.out; have hnc46 := NB244_245.out; have hcz47_0 : w42.cell? ⟨gb245, 0, none⟩ = some (.int .i64 x246000_1) := (blk_cell BK245.out 0).trans rfl; have hcz47_1 : w42.cell? ⟨gb245, 1, none⟩ = some (.int .i64 x246001_1) := (blk_cell BK245.out 1).trans rfl; have hcz47_2 : w42.cell? ⟨gb245, 2, none⟩ = some (.int .i64 x246002_1) := (blk_cell BK245.out 2).trans rfl; have hcz47_3 : w42.cell? ⟨gb245, 3, none⟩ = some (.int .i64 x246003_1) := (blk_cell BK245.out 3).trans rfl; have hfz47_0 := blk_frozen BK245.out 0; have hfz47_1 := blk_frozen BK245.out 1; have hfz47_2 := blk_frozen BK245.out 2; have hfz47_3 := blk_frozen BK245.out 3)
         generalize hq_ : World.setCell _ _ _ = wc
         have mgb244_ : Aside0 (wc.heap[gb244]? = some (.cells #[.int .i64 x245000_1, .int .i64 x245001_1, .int .i64 x245002_1, .int .i64 x245003_1] 34 (0, 0))) := ⟨by rw [← hq_]; exact (kf1q7 BK244.out NB244_246.out)⟩
         have mgb245_ : Aside0 (wc.heap[gb245]? = some (.cells #[.int .i64 x246000_1, .int .i64 x246001_1, .int .i64 x246002_1, .int .i64 x246003_1] 34 (0, 0))) := ⟨by rw [← hq_]; exact (kf1q7 BK245.out NB245_246.out)⟩
         have mgb246_ : Aside0 (wc.heap[gb246]? = some (.cells #[.int .i64 1, .int .i64 (-1), .int .i64 0, .int .i64 1] 34 (0, 0))) := ⟨by rw [← hq_]; exact (by (with_reducible repeat (first | refine blk_drewN ?_ _ | refine blk_drew ?_ | refine blk_alloc ?_ _)); refine blk_put (cs := #[.int .i64 1, .int .i64 (-1), .int .i64 0, .int .i64 0]) ?_ 3 _ rfl; (with_reducible repeat (first | refine blk_drewN ?_ _ | refine blk_drew ?_ | refine blk_alloc ?_ _)); refine blk_put (cs := #[.int .i64 1, .int .i64 (-1), .int .i64 1, .int .i64 0]) ?_ 2 _ rfl; (with_reducible repeat (first | refine blk_drewN ?_ _ | refine blk_drew ?_ | refine blk_alloc ?_ _)); refine blk_put (cs := #[.int .i64 1, .int .i64 (-1), .int .i64 1, .int .i64 0]) ?_ 1 _ rfl; (with_reducible repeat (first | refine blk_drewN ?_ _ | refine blk_drew ?_ | refine blk_alloc ?_ _)); refine blk_put (cs := #[.int .i64 0, .int .i64 (-1), .int .i64 1, .int .i64 0]) ?_ 0 _ rfl; (with_reducible repeat (first | refine blk_drewN ?_ _ | refine blk_drew ?_ | refine blk_alloc ?_ _)); refine blk_put (cs := #[.int .i64 0, .int .i64 (-1), .int .i64 1, .int .i64 0]) ?_ 3 _ rfl; (with_reducible repeat (first | refine blk_drewN ?_ _ | refine blk_drew ?_ | refine blk_alloc ?_ _)); refine blk_put (cs := #[.int .i64 0, .int .i64 (-1), .int .i64 0, .int .i64 0]) ?_ 2 _ rfl; (with_reducible repeat (first | refine blk_drewN ?_ _ | refine blk_drew ?_ | refine blk_alloc ?_ _)); refine blk_put (cs := #[.int .i64 0, .int .i64 0, .int .i64 0, .int .i64 0]) ?_ 1 _ rfl; (with_reducible repeat (first | refine blk_drewN ?_ _ | refine blk_drew ?_ | refine blk_alloc ?_ _)); refine blk_put (cs := #[.int .i64 0, .int .i64 0, .int .i64 0, .int .i64 0]) ?_ 0 _ rfl; (with_reducible repeat (first | refine blk_drewN ?_ _ | refine blk_drew ?_ | refine blk_alloc ?_ _)); exact BK246.out)⟩
         have mHB_ : Aside0 (Below w.heap.size w wc) := ⟨by rw [← hq_]; exact (lb3q7 HB.out GE244.out GE245.out GE246.out)⟩
         clear BK244 BK245 BK246 HB hq_
         have BK244 := mgb244_
         have BK245 := mgb245_
         have BK246 := mgb246_
         have HB := mHB_
         clear mgb244_ mgb245_ mgb246_ mHB_
         have hcxgb244_0 : wc.cell? ⟨gb244, 0, none⟩ = some (.int .i64 x245000_1) := (blk_cell BK244.out 0).trans rfl
         have hfxgb244_0 := blk_frozen BK244.out 0
         have hcxgb244_1 : wc.cell? ⟨gb244, 1, none⟩ = some (.int .i64 x245001_1) := (blk_cell BK244.out 1).trans rfl
         have hfxgb244_1 := blk_frozen BK244.out 1
         have hcxgb244_2 : wc.cell? ⟨gb244, 2, none⟩ = some (.int .i64 x245002_1) := (blk_cell BK244.out 2).trans rfl
         have hfxgb244_2 := blk_frozen BK244.out 2
         have hcxgb244_3 : wc.cell? ⟨gb244, 3, none⟩ = some (.int .i64 x245003_1) := (blk_cell BK244.out 3).trans rfl
         have hfxgb244_3 := blk_frozen BK244.out 3
         have hcxgb245_0 : wc.cell? ⟨gb245, 0, none⟩ = some (.int .i64 x246000_1) := (blk_cell BK245.out 0).trans rfl
         have hfxgb245_0 := blk_frozen BK245.out 0
         have hcxgb245_1 : wc.cell? ⟨gb245, 1, none⟩ = some (.int .i64 x246001_1) := (blk_cell BK245.out 1).trans rfl
         have hfxgb245_1 := blk_frozen BK245.out 1
         have hcxgb245_2 : wc.cell? ⟨gb245, 2, none⟩ = some (.int .i64 x246002_1) := (blk_cell BK245.out 2).trans rfl
         have hfxgb245_2 := blk_frozen BK245.out 2
         have hcxgb245_3 : wc.cell? ⟨gb245, 3, none⟩ = some (.int .i64 x246003_1) := (blk_cell BK245.out 3).trans rfl
         have hfxgb245_3 := blk_frozen BK245.out 3
         have hcxgb246_0 : wc.cell? ⟨gb246, 0, none⟩ = some (.int .i64 1) := (blk_cell BK246.out 0).trans rfl
         have hfxgb246_0 := blk_frozen BK246.out 0
         have hcxgb246_1 : wc.cell? ⟨gb246, 1, none⟩ = some (.int .i64 (-1)) := (blk_cell BK246.out 1).trans rfl
         have hfxgb246_1 := blk_frozen BK246.out 1
         have hcxgb246_2 : wc.cell? ⟨gb246, 2, none⟩ = some (.int .i64 0) := (blk_cell BK246.out 2).trans rfl
         have hfxgb246_2 := blk_frozen BK246.out 2
         have hcxgb246_3 : wc.cell? ⟨gb246, 3, none⟩ = some (.int .i64 1) := (blk_cell BK246.out 3).trans rfl
         have hfxgb246_3 := blk_frozen BK246.out 3
         go_wp2_with (first | ((with_reducible refine gate_callee (f := 61) rfl ?_); refine goesL_ (some 28) rfl rfl Tryd.func61 (by kernel_rfl) rfl #[.agg #[.int .i64 x246000_1, .int .i64 x246001_1, .int .i64 x246002_1, .int .i64 x246003_1], .agg #[.int .i64 1, .int .i64 (-1), .int .i64 0, .int .i64 1]] rfl (by (try simp only [List.map_toArray, List.map_cons, List.map_nil]); first | done | rfl | (simp only [List.length_drop, List.length_take]; rfl)) ?_; (with_reducible refine (impl_behind.calls k1 x246000_1 x246001_1 x246002_1 x246003_1 1 (-1) 0 1 t253 t254 t255 t256 true _ A40.out).mono ?_); rintro e w48 ⟨rfl, hb⟩; refine ⟨_, rfl, ?_⟩; have n0_ := Aside0.mk (blk_below (g := gb244) (o := .cells #[.int .i64 x245000_1, .int .i64 x245001_1, .int .i64 x245002_1, .int .i64 x245003_1] 34 (0, 0)) (kbq7 BK244.out) hb); have n1_ := Aside0.mk (blk_below (g := gb245) (o := .cells #[.int .i64 x246000_1, .int .i64 x246001_1, .int .i64 x246002_1, .int .i64 x246003_1] 34 (0, 0)) (kbq7 BK245.out) hb); have n2_ := Aside0.mk (blk_below (g := gb246) (o := .cells #[.int .i64 1, .int .i64 (-1), .int .i64 0, .int .i64 1] 34 (0, 0)) (kbq7 BK246.out) hb); have n3_ := Aside0.mk (below_step (lb3q7 HB.out GE244.out GE245.out GE246.out) hb); clear BK244; clear BK245; clear BK246; clear HB; have BK244 := n0_; have BK245 := n1_; have BK246 := n2_; have HB := n3_; clear n0_ n1_ n2_ n3_; (try clear hb); (try clear hb2); (try clear hk); (try clear hi)) | ((with_reducible refine gate_dst (N := 7) rfl ?_); refine box_event ?hg (N := 7) ?hd (cs := #[.int .i64 0, .int .i64 0, .int .i64 0, .int .i64 0]) (t := 34) ?hr ?_; (case hd => rfl); (case hg => rfl); (case hr => first | (go_simp; done) | (go_simp; rfl)); intro gb258 hg w49 hbox hb; have n0_ := Aside0.mk (blk_below (g := gb244) (o := .cells #[.int .i64 x245000_1, .int .i64 x245001_1, .int .i64 x245002_1, .int .i64 x245003_1] 34 (0, 0)) (kbq7 BK244.out) hb); have n1_ := Aside0.mk (blk_below (g := gb245) (o := .cells #[.int .i64 x246000_1, .int .i64 x246001_1, .int .i64 x246002_1, .int .i64 x246003_1] 34 (0, 0)) (kbq7 BK245.out) hb); have n2_ := Aside0.mk (blk_below (g := gb246) (o := .cells #[.int .i64 1, .int .i64 (-1), .int .i64 0, .int .i64 1] 34 (0, 0)) (kbq7 BK246.out) hb); have n3_ := Aside0.mk (below_step (lb3q7 HB.out GE244.out GE245.out GE246.out) hb); have n4_ := Aside0.mk (hbox); have n5_ := Aside0.mk ((by rw [hg]; exact (below_size (lb3q7 HB.out GE244.out GE245.out GE246.out)) : w.heap.size ≤ gb258)); have n6_ := Aside0.mk ((by rw [hg]; exact (below_size (lb3q7 HB.out GE244.out GE245.out GE246.out)) : w.heap.size ≤ gb258)); have n7_ := Aside0.mk ((by rw [hg]; exact Nat.ne_of_lt (blk_lt (g := gb244) (o := .cells #[.int .i64 x245000_1, .int .i64 x245001_1, .int .i64 x245002_1, .int .i64 x245003_1] 34 (0, 0)) (kbq7 BK244.out)) : gb244 ≠ gb258)); have n8_ := Aside0.mk ((by rw [hg]; exact Nat.ne_of_gt (blk_lt (g := gb244) (o := .cells #[.int .i64 x245000_1, .int .i64 x245001_1, .int .i64 x245002_1, .int .i64 x245003_1] 34 (0, 0)) (kbq7 BK244.out)) : gb258 ≠ gb244)); have n9_ := Aside0.mk ((by rw [hg]; exact Nat.ne_of_lt (blk_lt (g := gb245) (o := .cells #[.int .i64 x246000_1, .int .i64 x246001_1, .int .i64 x246002_1, .int .i64 x246003_1] 34 (0, 0)) (kbq7 BK245.out)) : gb245 ≠ gb258)); have n10_ := Aside0.mk ((by rw [hg]; exact Nat.ne_of_gt (blk_lt (g := gb245) (o := .cells #[.int .i64 x246000_1, .int .i64 x246001_1, .int .i64 x246002_1, .int .i64 x246003_1] 34 (0, 0)) (kbq7 BK245.out)) : gb258 ≠ gb245)); have n11_ := Aside0.mk ((by rw [hg]; exact Nat.ne_of_lt (blk_lt (g := gb246) (o := .cells #[.int .i64 1, .int .i64 (-1), .int .i64 0, .int .i64 1] 34 (0, 0)) (kbq7 BK246.out)) : gb246 ≠ gb258)); have n12_ := Aside0.mk ((by rw [hg]; exact Nat.ne_of_gt (blk_lt (g := gb246) (o := .cells #[.int .i64 1, .int .i64 (-1), .int .i64 0, .int .i64 1] 34 (0, 0)) (kbq7 BK246.out)) : gb258 ≠ gb246)); clear BK244; clear BK245; clear BK246; clear HB; have BK244 := n0_; have BK245 := n1_; have BK246 := n2_; have HB := n3_; have BK258 := n4_; have GW258 := n5_; have GE258 := n6_; have NB244_258 := n7_; have NB258_244 := n8_; have NB245_258 := n9_; have NB258_245 := n10_; have NB246_258 := n11_; have NB258_246 := n12_; clear n0_ n1_ n2_ n3_ n4_ n5_ n6_ n7_ n8_ n9_ n10_ n11_ n12_; clear hb hbox hg; have hnb50 := NB258_244.out; have hnc50 := NB244_258.out; have hnb51 := NB258_245.out; have hnc51 := NB245_258.out; have hnb52 := NB258_246.out; have hnc52 := NB246_258.out; have hcz53_0 : w49.cell? ⟨gb258, 0, none⟩ = some (.int .i64 0) := (blk_cell BK258.out 0).trans rfl; have hcz53_1 : w49.cell? ⟨gb258, 1, none⟩ = some (.int .i64 0) := (blk_cell BK258.out 1).trans rfl; have hcz53_2 : w49.cell? ⟨gb258, 2, none⟩ = some (.int .i64 0) := (blk_cell BK258.out 2).trans rfl; have hcz53_3 : w49.cell? ⟨gb258, 3, none⟩ = some (.int .i64 0) := (blk_cell BK258.out 3).trans rfl; have hfz53_0 := blk_frozen BK258.out 0; have hfz53_1 := blk_frozen BK258.out 1; have hfz53_2 := blk_frozen BK258.out 2; have hfz53_3 := blk_frozen BK258.out 3; have hcz54_0 : w49.cell? ⟨gb245, 0, none⟩ = some (.int .i64 x246000_1) := (blk_cell BK245.out 0).trans rfl; have hcz54_1 : w49.cell? ⟨gb245, 1, none⟩ = some (.int .i64 x246001_1) := (blk_cell BK245.out 1).trans rfl; have hcz54_2 : w49.cell? ⟨gb245, 2, none⟩ = some (.int .i64 x246002_1) := (blk_cell BK245.out 2).trans rfl; have hcz54_3 : w49.cell? ⟨gb245, 3, none⟩ = some (.int .i64 x246003_1) := (blk_cell BK245.out 3).trans rfl; have hfz54_0 := blk_frozen BK245.out 0; have hfz54_1 := blk_frozen BK245.out 1; have hfz54_2 := blk_frozen BK245.out 2; have hfz54_3 := blk_frozen BK245.out 3))
         go_roundg k1
         case measure => have := HK1.out; omega
         case rel => exact ⟨(wrap64 (x12_1 + 1)), (x245000_1), (x245001_1), (x245002_1), (x245003_1), (t253), (t254), (t255), (t256), (by first | rfl | (simp; done) | (simp [*]; done)), H', ⟨by have := HK1.out; omega⟩, ⟨kf2q7 BK244.out NB244_245.out NB244_258.out⟩, ⟨by (with_reducible repeat (first | refine blk_drewN ?_ _ | refine blk_drew ?_ | refine blk_alloc ?_ _)); refine blk_put (cs := #[.int .i64 t253, .int .i64 t254, .int .i64 t255, .int .i64 x246003_1]) ?_ 3 _ rfl; (with_reducible repeat (first | refine blk_drewN ?_ _ | refine blk_drew ?_ | refine blk_alloc ?_ _)); refine blk_put (cs := #[.int .i64 t253, .int .i64 t254, .int .i64 x246002_1, .int .i64 x246003_1]) ?_ 2 _ rfl; (with_reducible repeat (first | refine blk_drewN ?_ _ | refine blk_drew ?_ | refine blk_alloc ?_ _)); refine blk_put (cs := #[.int .i64 t253, .int .i64 x246001_1, .int .i64 x246002_1, .int .i64 x246003_1]) ?_ 1 _ rfl; (with_reducible repeat (first | refine blk_drewN ?_ _ | refine blk_drew ?_ | refine blk_alloc ?_ _)); refine blk_put (cs := #[.int .i64 x246000_1, .int .i64 x246001_1, .int .i64 x246002_1, .int .i64 x246003_1]) ?_ 0 _ rfl; (with_reducible repeat (first | refine blk_drewN ?_ _ | refine blk_drew ?_ | refine blk_alloc ?_ _)); refine blk_far ?_ NB245_258.out _; (with_reducible repeat (first | refine blk_drewN ?_ _ | refine blk_drew ?_ | refine blk_alloc ?_ _)); refine blk_far ?_ NB245_258.out _; (with_reducible repeat (first | refine blk_drewN ?_ _ | refine blk_drew ?_ | refine blk_alloc ?_ _)); refine blk_far ?_ NB245_258.out _; (with_reducible repeat (first | refine blk_drewN ?_ _ | refine blk_drew ?_ | refine blk_alloc ?_ _)); refine blk_far ?_ NB245_258.out _; (with_reducible repeat (first | refine blk_drewN ?_ _ | refine blk_drew ?_ | refine blk_alloc ?_ _)); exact BK245.out⟩, ⟨lb4q7 HB.out GE244.out GE245.out GE246.out GE258.out⟩⟩
        ·
         replace c41 := Bool.eq_false_iff.mpr c41
         subst c41
         have H1 : (some (0, 0, 0, 0, false)) = some (r1, r2, r3, r4, r5) := by rw [if_neg (show ¬ (false = true) by decide)] at H; exact H
         clear H
         have H := H1
         clear H1
         simp only [Option.some.injEq, Prod.mk.injEq] at H
         obtain ⟨rfl, rfl, rfl, rfl, rfl⟩ := H
         go_upto_region 11 with ((with_reducible refine gate_dst (N := 6) rfl ?_); refine box_event ?hg (N := 6) ?hd (cs := #[.int .i64 0, .int .i64 0, .int .i64 0, .int .i64 0]) (t := 34) ?hr ?_; (case hd => rfl); (case hg => rfl); (case hr => first | (go_simp; done) | (go_simp; rfl)); intro gb246 hg w55 hbox hb; have n0_ := Aside0.mk (blk_below (g := gb244) (o := .cells #[.int .i64 x245000_1, .int .i64 x245001_1, .int .i64 x245002_1, .int .i64 x245003_1] 34 (0, 0)) (kbq7 BK244.out) hb); have n1_ := Aside0.mk (blk_below (g := gb245) (o := .cells #[.int .i64 x246000_1, .int .i64 x246001_1, .int .i64 x246002_1, .int .i64 x246003_1] 34 (0, 0)) (kbq7 BK245.out) hb); have n2_ := Aside0.mk (below_step (lb2q7 HB.out GE244.out GE245.out) hb); have n3_ := Aside0.mk (hbox); have n4_ := Aside0.mk ((by rw [hg]; exact (below_size (lb2q7 HB.out GE244.out GE245.out)) : w.heap.size ≤ gb246)); have n5_ := Aside0.mk ((by rw [hg]; exact (below_size (lb2q7 HB.out GE244.out GE245.out)) : w.heap.size ≤ gb246)); have n6_ := Aside0.mk ((by rw [hg]; exact Nat.ne_of_lt (blk_lt (g := gb244) (o := .cells #[.int .i64 x245000_1, .int .i64 x245001_1, .int .i64 x245002_1, .int .i64 x245003_1] 34 (0, 0)) (kbq7 BK244.out)) : gb244 ≠ gb246)); have n7_ := Aside0.mk ((by rw [hg]; exact Nat.ne_of_gt (blk_lt (g := gb244) (o := .cells #[.int .i64 x245000_1, .int .i64 x245001_1, .int .i64 x245002_1, .int .i64 x245003_1] 34 (0, 0)) (kbq7 BK244.out)) : gb246 ≠ gb244)); have n8_ := Aside0.mk ((by rw [hg]; exact Nat.ne_of_lt (blk_lt (g := gb245) (o := .cells #[.int .i64 x246000_1, .int .i64 x246001_1, .int .i64 x246002_1, .int .i64 x246003_1] 34 (0, 0)) (kbq7 BK245.out)) : gb245 ≠ gb246)); have n9_ := Aside0.mk ((by rw [hg]; exact Nat.ne_of_gt (blk_lt (g := gb245) (o := .cells #[.int .i64 x246000_1, .int .i64 x246001_1, .int .i64 x246002_1, .int .i64 x246003_1] 34 (0, 0)) (kbq7 BK245.out)) : gb246 ≠ gb245)); clear BK244; clear BK245; clear HB; have BK244 := n0_; have BK245 := n1_; have HB := n2_; have BK246 := n3_; have GW246 := n4_; have GE246 := n5_; have NB244_246 := n6_; have NB246_244 := n7_; have NB245_246 := n8_; have NB246_245 := n9_; clear n0_ n1_ n2_ n3_ n4_ n5_ n6_ n7_ n8_ n9_; clear hb hbox hg; have hnb56 := NB246_244.out; have hnc56 := NB244_246.out; have hnb57 := NB246_245.out; have hnc57 := NB245_246.out; have hcz58_0 : w55.cell? ⟨gb246, 0, none⟩ = some (.int .i64 0) := (blk_cell BK246.out 0).trans rfl; have hcz58_1 : w55.cell? ⟨gb246, 1, none⟩ = some (.int .i64 0) := (blk_cell BK246.out 1).trans rfl; have hcz58_2 : w55.cell? ⟨gb246, 2, none⟩ = some (.int .i64 0) := (blk_cell BK246.out 2).trans rfl; have hcz58_3 : w55.cell? ⟨gb246, 3, none⟩ = some (.int .i64 0) := (blk_cell BK246.out 3).trans rfl; have hfz58_0 := blk_frozen BK246.out 0; have hfz58_1 := blk_frozen BK246.out 1; have hfz58_2 := blk_frozen BK246.out 2; have hfz58_3 := blk_frozen BK246.out 3; have p9 : 0 ≤ (x12_1 : Int) := of_decide_eq_true (by first | (with_reducible assumption) | assumption); have q9 : x12_1 < (a0.size : Int) := of_decide_eq_true (by first | (with_reducible assumption) | assumption); have hx9 := bt_at a0 x12_1; replace p9 := eq_true p9; replace q9 := eq_true q9; have hnb59 := NB245_244.out; have hnc59 := NB244_245.out; have hcz60_0 : w55.cell? ⟨gb245, 0, none⟩ = some (.int .i64 x246000_1) := (blk_cell BK245.out 0).trans rfl; have hcz60_1 : w55.cell? ⟨gb245, 1, none⟩ = some (.int .i64 x246001_1) := (blk_cell BK245.out 1).trans rfl; have hcz60_2 : w55.cell? ⟨gb245, 2, none⟩ = some (.int .i64 x246002_1) := (blk_cell BK245.out 2).trans rfl; have hcz60_3 : w55.cell? ⟨gb245, 3, none⟩ = some (.int .i64 x246003_1) := (blk_cell BK245.out 3).trans rfl; have hfz60_0 := blk_frozen BK245.out 0; have hfz60_1 := blk_frozen BK245.out 1; have hfz60_2 := blk_frozen BK245.out 2; have hfz60_3 := blk_frozen BK245.out 3)
         generalize hq_ : World.setCell _ _ _ = wc
         have mgb244_ : Aside0 (wc.heap[gb244]? = some (.cells #[.int .i64 x245000_1, .int .i64 x245001_1, .int .i64 x245002_1, .int .i64 x245003_1] 34 (0, 0))) := ⟨by rw [← hq_]; exact (kf1q7 BK244.out NB244_246.out)⟩
         have mgb245_ : Aside0 (wc.heap[gb245]? = some (.cells #[.int .i64 x246000_1, .int .i64 x246001_1, .int .i64 x246002_1, .int .i64 x246003_1] 34 (0, 0))) := ⟨by rw [← hq_]; exact (kf1q7 BK245.out NB245_246.out)⟩
         have mgb246_ : Aside0 (wc.heap[gb246]? = some (.cells #[.int .i64 1, .int .i64 (-1), .int .i64 0, .int .i64 1] 34 (0, 0))) := ⟨by rw [← hq_]; exact (by (with_reducible repeat (first | refine blk_drewN ?_ _ | refine blk_drew ?_ | refine blk_alloc ?_ _)); refine blk_put (cs := #[.int .i64 1, .int .i64 (-1), .int .i64 0, .int .i64 0]) ?_ 3 _ rfl; (with_reducible repeat (first | refine blk_drewN ?_ _ | refine blk_drew ?_ | refine blk_alloc ?_ _)); refine blk_put (cs := #[.int .i64 1, .int .i64 (-1), .int .i64 1, .int .i64 0]) ?_ 2 _ rfl; (with_reducible repeat (first | refine blk_drewN ?_ _ | refine blk_drew ?_ | refine blk_alloc ?_ _)); refine blk_put (cs := #[.int .i64 1, .int .i64 (-1), .int .i64 1, .int .i64 0]) ?_ 1 _ rfl; (with_reducible repeat (first | refine blk_drewN ?_ _ | refine blk_drew ?_ | refine blk_alloc ?_ _)); refine blk_put (cs := #[.int .i64 0, .int .i64 (-1), .int .i64 1, .int .i64 0]) ?_ 0 _ rfl; (with_reducible repeat (first | refine blk_drewN ?_ _ | refine blk_drew ?_ | refine blk_alloc ?_ _)); refine blk_put (cs := #[.int .i64 0, .int .i64 (-1), .int .i64 1, .int .i64 0]) ?_ 3 _ rfl; (with_reducible repeat (first | refine blk_drewN ?_ _ | refine blk_drew ?_ | refine blk_alloc ?_ _)); refine blk_put (cs := #[.int .i64 0, .int .i64 (-1), .int .i64 0, .int .i64 0]) ?_ 2 _ rfl; (with_reducible repeat (first | refine blk_drewN ?_ _ | refine blk_drew ?_ | refine blk_alloc ?_ _)); refine blk_put (cs := #[.int .i64 0, .int .i64 0, .int .i64 0, .int .i64 0]) ?_ 1 _ rfl; (with_reducible repeat (first | refine blk_drewN ?_ _ | refine blk_drew ?_ | refine blk_alloc ?_ _)); refine blk_put (cs := #[.int .i64 0, .int .i64 0, .int .i64 0, .int .i64 0]) ?_ 0 _ rfl; (with_reducible repeat (first | refine blk_drewN ?_ _ | refine blk_drew ?_ | refine blk_alloc ?_ _)); exact BK246.out)⟩
         have mHB_ : Aside0 (Below w.heap.size w wc) := ⟨by rw [← hq_]; exact (lb3q7 HB.out GE244.out GE245.out GE246.out)⟩
         clear BK244 BK245 BK246 HB hq_
         have BK244 := mgb244_
         have BK245 := mgb245_
         have BK246 := mgb246_
         have HB := mHB_
         clear mgb244_ mgb245_ mgb246_ mHB_
         have hcxgb244_0 : wc.cell? ⟨gb244, 0, none⟩ = some (.int .i64 x245000_1) := (blk_cell BK244.out 0).trans rfl
         have hfxgb244_0 := blk_frozen BK244.out 0
         have hcxgb244_1 : wc.cell? ⟨gb244, 1, none⟩ = some (.int .i64 x245001_1) := (blk_cell BK244.out 1).trans rfl
         have hfxgb244_1 := blk_frozen BK244.out 1
         have hcxgb244_2 : wc.cell? ⟨gb244, 2, none⟩ = some (.int .i64 x245002_1) := (blk_cell BK244.out 2).trans rfl
         have hfxgb244_2 := blk_frozen BK244.out 2
         have hcxgb244_3 : wc.cell? ⟨gb244, 3, none⟩ = some (.int .i64 x245003_1) := (blk_cell BK244.out 3).trans rfl
         have hfxgb244_3 := blk_frozen BK244.out 3
         have hcxgb245_0 : wc.cell? ⟨gb245, 0, none⟩ = some (.int .i64 x246000_1) := (blk_cell BK245.out 0).trans rfl
         have hfxgb245_0 := blk_frozen BK245.out 0
         have hcxgb245_1 : wc.cell? ⟨gb245, 1, none⟩ = some (.int .i64 x246001_1) := (blk_cell BK245.out 1).trans rfl
         have hfxgb245_1 := blk_frozen BK245.out 1
         have hcxgb245_2 : wc.cell? ⟨gb245, 2, none⟩ = some (.int .i64 x246002_1) := (blk_cell BK245.out 2).trans rfl
         have hfxgb245_2 := blk_frozen BK245.out 2
         have hcxgb245_3 : wc.cell? ⟨gb245, 3, none⟩ = some (.int .i64 x246003_1) := (blk_cell BK245.out 3).trans rfl
         have hfxgb245_3 := blk_frozen BK245.out 3
         have hcxgb246_0 : wc.cell? ⟨gb246, 0, none⟩ = some (.int .i64 1) := (blk_cell BK246.out 0).trans rfl
         have hfxgb246_0 := blk_frozen BK246.out 0
         have hcxgb246_1 : wc.cell? ⟨gb246, 1, none⟩ = some (.int .i64 (-1)) := (blk_cell BK246.out 1).trans rfl
         have hfxgb246_1 := blk_frozen BK246.out 1
         have hcxgb246_2 : wc.cell? ⟨gb246, 2, none⟩ = some (.int .i64 0) := (blk_cell BK246.out 2).trans rfl
         have hfxgb246_2 := blk_frozen BK246.out 2
         have hcxgb246_3 : wc.cell? ⟨gb246, 3, none⟩ = some (.int .i64 1) := (blk_cell BK246.out 3).trans rfl
         have hfxgb246_3 := blk_frozen BK246.out 3
         go_wp2_with (first | ((with_reducible refine gate_callee (f := 61) rfl ?_); refine goesL_ (some 28) rfl rfl Tryd.func61 (by kernel_rfl) rfl #[.agg #[.int .i64 x246000_1, .int .i64 x246001_1, .int .i64 x246002_1, .int .i64 x246003_1], .agg #[.int .i64 1, .int .i64 (-1), .int .i64 0, .int .i64 1]] rfl (by (try simp only [List.map_toArray, List.map_cons, List.map_nil]); first | done | rfl | (simp only [List.length_drop, List.length_take]; rfl)) ?_; (with_reducible refine (impl_behind.calls k1 x246000_1 x246001_1 x246002_1 x246003_1 1 (-1) 0 1 t253 t254 t255 t256 false _ A40.out).mono ?_); rintro e w61 ⟨rfl, hb⟩; refine ⟨_, rfl, ?_⟩; have n0_ := Aside0.mk (blk_below (g := gb244) (o := .cells #[.int .i64 x245000_1, .int .i64 x245001_1, .int .i64 x245002_1, .int .i64 x245003_1] 34 (0, 0)) (kbq7 BK244.out) hb); have n1_ := Aside0.mk (blk_below (g := gb245) (o := .cells #[.int .i64 x246000_1, .int .i64 x246001_1, .int .i64 x246002_1, .int .i64 x246003_1] 34 (0, 0)) (kbq7 BK245.out) hb); have n2_ := Aside0.mk (blk_below (g := gb246) (o := .cells #[.int .i64 1, .int .i64 (-1), .int .i64 0, .int .i64 1] 34 (0, 0)) (kbq7 BK246.out) hb); have n3_ := Aside0.mk (below_step (lb3q7 HB.out GE244.out GE245.out GE246.out) hb); clear BK244; clear BK245; clear BK246; clear HB; have BK244 := n0_; have BK245 := n1_; have BK246 := n2_; have HB := n3_; clear n0_ n1_ n2_ n3_; (try clear hb); (try clear hb2); (try clear hk); (try clear hi)) | ((with_reducible refine gate_dst (N := 7) rfl ?_); refine box_event ?hg (N := 7) ?hd (cs := #[.int .i64 0, .int .i64 0, .int .i64 0, .int .i64 0]) (t := 34) ?hr ?_; (case hd => rfl); (case hg => rfl); (case hr => first | (go_simp; done) | (go_simp; rfl)); intro gb258 hg w62 hbox hb; have n0_ := Aside0.mk (blk_below (g := gb244) (o := .cells #[.int .i64 x245000_1, .int .i64 x245001_1, .int .i64 x245002_1, .int .i64 x245003_1] 34 (0, 0)) (kbq7 BK244.out) hb); have n1_ := Aside0.mk (blk_below (g := gb245) (o := .cells #[.int .i64 x246000_1, .int .i64 x246001_1, .int .i64 x246002_1, .int .i64 x246003_1] 34 (0, 0)) (kbq7 BK245.out) hb); have n2_ := Aside0.mk (blk_below (g := gb246) (o := .cells #[.int .i64 1, .int .i64 (-1), .int .i64 0, .int .i64 1] 34 (0, 0)) (kbq7 BK246.out) hb); have n3_ := Aside0.mk (below_step (lb3q7 HB.out GE244.out GE245.out GE246.out) hb); have n4_ := Aside0.mk (hbox); have n5_ := Aside0.mk ((by rw [hg]; exact (below_size (lb3q7 HB.out GE244.out GE245.out GE246.out)) : w.heap.size ≤ gb258)); have n6_ := Aside0.mk ((by rw [hg]; exact (below_size (lb3q7 HB.out GE244.out GE245.out GE246.out)) : w.heap.size ≤ gb258)); have n7_ := Aside0.mk ((by rw [hg]; exact Nat.ne_of_lt (blk_lt (g := gb244) (o := .cells #[.int .i64 x245000_1, .int .i64 x245001_1, .int .i64 x245002_1, .int .i64 x245003_1] 34 (0, 0)) (kbq7 BK244.out)) : gb244 ≠ gb258)); have n8_ := Aside0.mk ((by rw [hg]; exact Nat.ne_of_gt (blk_lt (g := gb244) (o := .cells #[.int .i64 x245000_1, .int .i64 x245001_1, .int .i64 x245002_1, .int .i64 x245003_1] 34 (0, 0)) (kbq7 BK244.out)) : gb258 ≠ gb244)); have n9_ := Aside0.mk ((by rw [hg]; exact Nat.ne_of_lt (blk_lt (g := gb245) (o := .cells #[.int .i64 x246000_1, .int .i64 x246001_1, .int .i64 x246002_1, .int .i64 x246003_1] 34 (0, 0)) (kbq7 BK245.out)) : gb245 ≠ gb258)); have n10_ := Aside0.mk ((by rw [hg]; exact Nat.ne_of_gt (blk_lt (g := gb245) (o := .cells #[.int .i64 x246000_1, .int .i64 x246001_1, .int .i64 x246002_1, .int .i64 x246003_1] 34 (0, 0)) (kbq7 BK245.out)) : gb258 ≠ gb245)); have n11_ := Aside0.mk ((by rw [hg]; exact Nat.ne_of_lt (blk_lt (g := gb246) (o := .cells #[.int .i64 1, .int .i64 (-1), .int .i64 0, .int .i64 1] 34 (0, 0)) (kbq7 BK246.out)) : gb246 ≠ gb258)); have n12_ := Aside0.mk ((by rw [hg]; exact Nat.ne_of_gt (blk_lt (g := gb246) (o := .cells #[.int .i64 1, .int .i64 (-1), .int .i64 0, .int .i64 1] 34 (0, 0)) (kbq7 BK246.out)) : gb258 ≠ gb246)); clear BK244; clear BK245; clear BK246; clear HB; have BK244 := n0_; have BK245 := n1_; have BK246 := n2_; have HB := n3_; have BK258 := n4_; have GW258 := n5_; have GE258 := n6_; have NB244_258 := n7_; have NB258_244 := n8_; have NB245_258 := n9_; have NB258_245 := n10_; have NB246_258 := n11_; have NB258_246 := n12_; clear n0_ n1_ n2_ n3_ n4_ n5_ n6_ n7_ n8_ n9_ n10_ n11_ n12_; clear hb hbox hg; have hnb63 := NB258_244.out; have hnc63 := NB244_258.out; have hnb64 := NB258_245.out; have hnc64 := NB245_258.out; have hnb65 := NB258_246.out; have hnc65 := NB246_258.out; have hcz66_0 : w62.cell? ⟨gb258, 0, none⟩ = some (.int .i64 0) := (blk_cell BK258.out 0).trans rfl; have hcz66_1 : w62.cell? ⟨gb258, 1, none⟩ = some (.int .i64 0) := (blk_cell BK258.out 1).trans rfl; have hcz66_2 : w62.cell? ⟨gb258, 2, none⟩ = some (.int .i64 0) := (blk_cell BK258.out 2).trans rfl; have hcz66_3 : w62.cell? ⟨gb258, 3, none⟩ = some (.int .i64 0) := (blk_cell BK258.out 3).trans rfl; have hfz66_0 := blk_frozen BK258.out 0; have hfz66_1 := blk_frozen BK258.out 1; have hfz66_2 := blk_frozen BK258.out 2; have hfz66_3 := blk_frozen BK258.out 3; have hcz67_0 : w62.cell? ⟨gb244, 0, none⟩ = some (.int .i64 x245000_1) := (blk_cell BK244.out 0).trans rfl; have hcz67_1 : w62.cell? ⟨gb244, 1, none⟩ = some (.int .i64 x245001_1) := (blk_cell BK244.out 1).trans rfl; have hcz67_2 : w62.cell? ⟨gb244, 2, none⟩ = some (.int .i64 x245002_1) := (blk_cell BK244.out 2).trans rfl; have hcz67_3 : w62.cell? ⟨gb244, 3, none⟩ = some (.int .i64 x245003_1) := (blk_cell BK244.out 3).trans rfl; have hfz67_0 := blk_frozen BK244.out 0; have hfz67_1 := blk_frozen BK244.out 1; have hfz67_2 := blk_frozen BK244.out 2; have hfz67_3 := blk_frozen BK244.out 3))
         refine bodyPost_ret (results_ct rfl _ _ gb244 34 #[.int .i64 0, .int .i64 0, .int .i64 0, .int .i64 0] (0, 0) _ rfl (by (with_reducible repeat (first | refine blk_drewN ?_ _ | refine blk_drew ?_ | refine blk_alloc ?_ _)); refine blk_put (cs := #[.int .i64 0, .int .i64 0, .int .i64 0, .int .i64 x245003_1]) ?_ 3 _ rfl; (with_reducible repeat (first | refine blk_drewN ?_ _ | refine blk_drew ?_ | refine blk_alloc ?_ _)); refine blk_put (cs := #[.int .i64 0, .int .i64 0, .int .i64 x245002_1, .int .i64 x245003_1]) ?_ 2 _ rfl; (with_reducible repeat (first | refine blk_drewN ?_ _ | refine blk_drew ?_ | refine blk_alloc ?_ _)); refine blk_put (cs := #[.int .i64 0, .int .i64 x245001_1, .int .i64 x245002_1, .int .i64 x245003_1]) ?_ 1 _ rfl; (with_reducible repeat (first | refine blk_drewN ?_ _ | refine blk_drew ?_ | refine blk_alloc ?_ _)); refine blk_put (cs := #[.int .i64 x245000_1, .int .i64 x245001_1, .int .i64 x245002_1, .int .i64 x245003_1]) ?_ 0 _ rfl; (with_reducible repeat (first | refine blk_drewN ?_ _ | refine blk_drew ?_ | refine blk_alloc ?_ _)); refine blk_far ?_ NB244_258.out _; (with_reducible repeat (first | refine blk_drewN ?_ _ | refine blk_drew ?_ | refine blk_alloc ?_ _)); refine blk_far ?_ NB244_258.out _; (with_reducible repeat (first | refine blk_drewN ?_ _ | refine blk_drew ?_ | refine blk_alloc ?_ _)); refine blk_far ?_ NB244_258.out _; (with_reducible repeat (first | refine blk_drewN ?_ _ | refine blk_drew ?_ | refine blk_alloc ?_ _)); refine blk_far ?_ NB244_258.out _; (with_reducible repeat (first | refine blk_drewN ?_ _ | refine blk_drew ?_ | refine blk_alloc ?_ _)); exact BK244.out) Tryd.underlying34 rfl (by kernel_rfl)) rfl ?_
         exact ⟨by first | rfl | (simp [errW_none, errW_some] <;> rfl) | (simp [*, errW_none, errW_some] <;> rfl), by repeat (first | (with_reducible first | exact HB.out | apply below_alloc | apply pw_below_drewN | apply below_drew1 | refine below_set ?_ GE244.out | refine below_set ?_ GE245.out | refine below_set ?_ GE246.out | refine below_set ?_ GE258.out) | exact HB.out)⟩
       ·
        rw [if_neg c39] at H
        have c39b0 : ((bt a0 x12_1) == 116) = false := beq_eq_false_iff_ne.mpr c39
        have c39b1 : ((bt a0 x12_1) != 116) = true := bne_iff_ne.mpr c39
        replace H := Option.bind_eq_some_iff.mp H
        obtain ⟨⟨t259, t260, t261, t262, t263⟩, A680, H⟩ := H
        replace H : (if t263 = true then (impl_mapOf.l0 k1 a0 (a0.size : Int) (wrap64 (x12_1 + 1)) t259 t260 t261 t262) else (some (0, 0, 0, 0, false))) = some (r1, r2, r3, r4, r5) := H
        have A68 := Aside0.mk A680
        clear A680
        by_cases c69 : t263 = true
        ·
         subst c69
         have H1 : (impl_mapOf.l0 k1 a0 (a0.size : Int) (wrap64 (x12_1 + 1)) t259 t260 t261 t262) = some (r1, r2, r3, r4, r5) := by rw [if_pos rfl] at H; exact H
         clear H
         have H := H1
         clear H1
         have H' := Aside0.mk H
         clear H
         go_upto_region 11 with ((with_reducible refine gate_dst (N := 6) rfl ?_); refine box_event ?hg (N := 6) ?hd (cs := #[.int .i64 0, .int .i64 0, .int .i64 0, .int .i64 0]) (t := 34) ?hr ?_; (case hd => rfl); (case hg => rfl); (case hr => first | (go_simp; done) | (go_simp; rfl)); intro gb246 hg w70 hbox hb; have n0_ := Aside0.mk (blk_below (g := gb244) (o := .cells #[.int .i64 x245000_1, .int .i64 x245001_1, .int .i64 x245002_1, .int .i64 x245003_1] 34 (0, 0)) (kbq7 BK244.out) hb); have n1_ := Aside0.mk (blk_below (g := gb245) (o := .cells #[.int .i64 x246000_1, .int .i64 x246001_1, .int .i64 x246002_1, .int .i64 x246003_1] 34 (0, 0)) (kbq7 BK245.out) hb); have n2_ := Aside0.mk (below_step (lb2q7 HB.out GE244.out GE245.out) hb); have n3_ := Aside0.mk (hbox); have n4_ := Aside0.mk ((by rw [hg]; exact (below_size (lb2q7 HB.out GE244.out GE245.out)) : w.heap.size ≤ gb246)); have n5_ := Aside0.mk ((by rw [hg]; exact (below_size (lb2q7 HB.out GE244.out GE245.out)) : w.heap.size ≤ gb246)); have n6_ := Aside0.mk ((by rw [hg]; exact Nat.ne_of_lt (blk_lt (g := gb244) (o := .cells #[.int .i64 x245000_1, .int .i64 x245001_1, .int .i64 x245002_1, .int .i64 x245003_1] 34 (0, 0)) (kbq7 BK244.out)) : gb244 ≠ gb246)); have n7_ := Aside0.mk ((by rw [hg]; exact Nat.ne_of_gt (blk_lt (g := gb244) (o := .cells #[.int .i64 x245000_1, .int .i64 x245001_1, .int .i64 x245002_1, .int .i64 x245003_1] 34 (0, 0)) (kbq7 BK244.out)) : gb246 ≠ gb244)); have n8_ := Aside0.mk ((by rw [hg]; exact Nat.ne_of_lt (blk_lt (g := gb245) (o := .cells #[.int .i64 x246000_1, .int .i64 x246001_1, .int .i64 x246002_1, .int .i64 x246003_1] 34 (0, 0)) (kbq7 BK245.out)) : gb245 ≠ gb246)); have n9_ := Aside0.mk ((by rw [hg]; exact Nat.ne_of_gt (blk_lt (g := gb245) (o := .cells #[.int .i64 x246000_1, .int .i64 x246001_1, .int .i64 x246002_1, .int .i64 x246003_1] 34 (0, 0)) (kbq7 BK245.out)) : gb246 ≠ gb245)); clear BK244; clear BK245; clear HB; have BK244 := n0_; have BK245 := n1_; have HB := n2_; have BK246 := n3_; have GW246 := n4_; have GE246 := n5_; have NB244_246 := n6_; have NB246_244 := n7_; have NB245_246 := n8_; have NB246_245 := n9_; clear n0_ n1_ n2_ n3_ n4_ n5_ n6_ n7_ n8_ n9_; clear hb hbox hg; have hnb71 := NB246_244.out; have hnc71 := NB244_246.out; have hnb72 := NB246_245.out; have hnc72 := NB245_246.out; have hcz73_0 : w70.cell? ⟨gb246, 0, none⟩ = some (.int .i64 0) := (blk_cell BK246.out 0).trans rfl; have hcz73_1 : w70.cell? ⟨gb246, 1, none⟩ = some (.int .i64 0) := (blk_cell BK246.out 1).trans rfl; have hcz73_2 : w70.cell? ⟨gb246, 2, none⟩ = some (.int .i64 0) := (blk_cell BK246.out 2).trans rfl; have hcz73_3 : w70.cell? ⟨gb246, 3, none⟩ = some (.int .i64 0) := (blk_cell BK246.out 3).trans rfl; have hfz73_0 := blk_frozen BK246.out 0; have hfz73_1 := blk_frozen BK246.out 1; have hfz73_2 := blk_frozen BK246.out 2; have hfz73_3 := blk_frozen BK246.out 3; have p9 : 0 ≤ (x12_1 : Int) := of_decide_eq_true (by first | (with_reducible assumption) | assumption); have q9 : x12_1 < (a0.size : Int) := of_decide_eq_true (by first | (with_reducible assumption) | assumption); have hx9 := bt_at a0 x12_1; replace p9 := eq_true p9; replace q9 := eq_true q9; have hnb74 := NB245_244.out; have hnc74 := NB244_245.out; have hcz75_0 : w70.cell? ⟨gb245, 0, none⟩ = some (.int .i64 x246000_1) := (blk_cell BK245.out 0).trans rfl; have hcz75_1 : w70.cell? ⟨gb245, 1, none⟩ = some (.int .i64 x246001_1) := (blk_cell BK245.out 1).trans rfl; have hcz75_2 : w70.cell? ⟨gb245, 2, none⟩ = some (.int .i64 x246002_1) := (blk_cell BK245.out 2).trans rfl; have hcz75_3 : w70.cell? ⟨gb245, 3, none⟩ = some (.int .i64 x246003_1) := (blk_cell BK245.out 3).trans rfl; have hfz75_0 := blk_frozen BK245.out 0; have hfz75_1 := blk_frozen BK245.out 1; have hfz75_2 := blk_frozen BK245.out 2; have hfz75_3 := blk_frozen BK245.out 3)
         generalize hq_ : World.setCell _ _ _ = wc
         have mgb244_ : Aside0 (wc.heap[gb244]? = some (.cells #[.int .i64 x245000_1, .int .i64 x245001_1, .int .i64 x245002_1, .int .i64 x245003_1] 34 (0, 0))) := ⟨by rw [← hq_]; exact (kf1q7 BK244.out NB244_246.out)⟩
         have mgb245_ : Aside0 (wc.heap[gb245]? = some (.cells #[.int .i64 x246000_1, .int .i64 x246001_1, .int .i64 x246002_1, .int .i64 x246003_1] 34 (0, 0))) := ⟨by rw [← hq_]; exact (kf1q7 BK245.out NB245_246.out)⟩
         have mgb246_ : Aside0 (wc.heap[gb246]? = some (.cells #[.int .i64 0, .int .i64 (-1), .int .i64 1, .int .i64 0] 34 (0, 0))) := ⟨by rw [← hq_]; exact (by (with_reducible repeat (first | refine blk_drewN ?_ _ | refine blk_drew ?_ | refine blk_alloc ?_ _)); refine blk_put (cs := #[.int .i64 0, .int .i64 (-1), .int .i64 1, .int .i64 0]) ?_ 3 _ rfl; (with_reducible repeat (first | refine blk_drewN ?_ _ | refine blk_drew ?_ | refine blk_alloc ?_ _)); refine blk_put (cs := #[.int .i64 0, .int .i64 (-1), .int .i64 0, .int .i64 0]) ?_ 2 _ rfl; (with_reducible repeat (first | refine blk_drewN ?_ _ | refine blk_drew ?_ | refine blk_alloc ?_ _)); refine blk_put (cs := #[.int .i64 0, .int .i64 0, .int .i64 0, .int .i64 0]) ?_ 1 _ rfl; (with_reducible repeat (first | refine blk_drewN ?_ _ | refine blk_drew ?_ | refine blk_alloc ?_ _)); refine blk_put (cs := #[.int .i64 0, .int .i64 0, .int .i64 0, .int .i64 0]) ?_ 0 _ rfl; (with_reducible repeat (first | refine blk_drewN ?_ _ | refine blk_drew ?_ | refine blk_alloc ?_ _)); exact BK246.out)⟩
         have mHB_ : Aside0 (Below w.heap.size w wc) := ⟨by rw [← hq_]; exact (lb3q7 HB.out GE244.out GE245.out GE246.out)⟩
         clear BK244 BK245 BK246 HB hq_
         have BK244 := mgb244_
         have BK245 := mgb245_
         have BK246 := mgb246_
         have HB := mHB_
         clear mgb244_ mgb245_ mgb246_ mHB_
         have hcxgb244_0 : wc.cell? ⟨gb244, 0, none⟩ = some (.int .i64 x245000_1) := (blk_cell BK244.out 0).trans rfl
         have hfxgb244_0 := blk_frozen BK244.out 0
         have hcxgb244_1 : wc.cell? ⟨gb244, 1, none⟩ = some (.int .i64 x245001_1) := (blk_cell BK244.out 1).trans rfl
         have hfxgb244_1 := blk_frozen BK244.out 1
         have hcxgb244_2 : wc.cell? ⟨gb244, 2, none⟩ = some (.int .i64 x245002_1) := (blk_cell BK244.out 2).trans rfl
         have hfxgb244_2 := blk_frozen BK244.out 2
         have hcxgb244_3 : wc.cell? ⟨gb244, 3, none⟩ = some (.int .i64 x245003_1) := (blk_cell BK244.out 3).trans rfl
         have hfxgb244_3 := blk_frozen BK244.out 3
         have hcxgb245_0 : wc.cell? ⟨gb245, 0, none⟩ = some (.int .i64 x246000_1) := (blk_cell BK245.out 0).trans rfl
         have hfxgb245_0 := blk_frozen BK245.out 0
         have hcxgb245_1 : wc.cell? ⟨gb245, 1, none⟩ = some (.int .i64 x246001_1) := (blk_cell BK245.out 1).trans rfl
         have hfxgb245_1 := blk_frozen BK245.out 1
         have hcxgb245_2 : wc.cell? ⟨gb245, 2, none⟩ = some (.int .i64 x246002_1) := (blk_cell BK245.out 2).trans rfl
         have hfxgb245_2 := blk_frozen BK245.out 2
         have hcxgb245_3 : wc.cell? ⟨gb245, 3, none⟩ = some (.int .i64 x246003_1) := (blk_cell BK245.out 3).trans rfl
         have hfxgb245_3 := blk_frozen BK245.out 3
         have hcxgb246_0 : wc.cell? ⟨gb246, 0, none⟩ = some (.int .i64 0) := (blk_cell BK246.out 0).trans rfl
         have hfxgb246_0 := blk_frozen BK246.out 0
         have hcxgb246_1 : wc.cell? ⟨gb246, 1, none⟩ = some (.int .i64 (-1)) := (blk_cell BK246.out 1).trans rfl
         have hfxgb246_1 := blk_frozen BK246.out 1
         have hcxgb246_2 : wc.cell? ⟨gb246, 2, none⟩ = some (.int .i64 1) := (blk_cell BK246.out 2).trans rfl
         have hfxgb246_2 := blk_frozen BK246.out 2
         have hcxgb246_3 : wc.cell? ⟨gb246, 3, none⟩ = some (.int .i64 0) := (blk_cell BK246.out 3).trans rfl
         have hfxgb246_3 := blk_frozen BK246.out 3
         go_wp2_with (first | ((with_reducible refine gate_callee (f := 61) rfl ?_); refine goesL_ (some 28) rfl rfl Tryd.func61 (by kernel_rfl) rfl #[.agg #[.int .i64 x246000_1, .int .i64 x246001_1, .int .i64 x246002_1, .int .i64 x246003_1], .agg #[.int .i64 0, .int .i64 (-1), .int .i64 1, .int .i64 0]] rfl (by (try simp only [List.map_toArray, List.map_cons, List.map_nil]); first | done | rfl | (simp only [List.length_drop, List.length_take]; rfl)) ?_; (with_reducible refine (impl_behind.calls k1 x246000_1 x246001_1 x246002_1 x246003_1 0 (-1) 1 0 t259 t260 t261 t262 true _ A68.out).mono ?_); rintro e w76 ⟨rfl, hb⟩; refine ⟨_, rfl, ?_⟩; have n0_ := Aside0.mk (blk_below (g := gb244) (o := .cells #[.int .i64 x245000_1, .int .i64 x245001_1, .int .i64 x245002_1, .int .i64 x245003_1] 34 (0, 0)) (kbq7 BK244.out) hb); have n1_ := Aside0.mk (blk_below (g := gb245) (o := .cells #[.int .i64 x246000_1, .int .i64 x246001_1, .int .i64 x246002_1, .int .i64 x246003_1] 34 (0, 0)) (kbq7 BK245.out) hb); have n2_ := Aside0.mk (blk_below (g := gb246) (o := .cells #[.int .i64 0, .int .i64 (-1), .int .i64 1, .int .i64 0] 34 (0, 0)) (kbq7 BK246.out) hb); have n3_ := Aside0.mk (below_step (lb3q7 HB.out GE244.out GE245.out GE246.out) hb); clear BK244; clear BK245; clear BK246; clear HB; have BK244 := n0_; have BK245 := n1_; have BK246 := n2_; have HB := n3_; clear n0_ n1_ n2_ n3_; (try clear hb); (try clear hb2); (try clear hk); (try clear hi)) | ((with_reducible refine gate_dst (N := 7) rfl ?_); refine box_event ?hg (N := 7) ?hd (cs := #[.int .i64 0, .int .i64 0, .int .i64 0, .int .i64 0]) (t := 34) ?hr ?_; (case hd => rfl); (case hg => rfl); (case hr => first | (go_simp; done) | (go_simp; rfl)); intro gb264 hg w77 hbox hb; have n0_ := Aside0.mk (blk_below (g := gb244) (o := .cells #[.int .i64 x245000_1, .int .i64 x245001_1, .int .i64 x245002_1, .int .i64 x245003_1] 34 (0, 0)) (kbq7 BK244.out) hb); have n1_ := Aside0.mk (blk_below (g := gb245) (o := .cells #[.int .i64 x246000_1, .int .i64 x246001_1, .int .i64 x246002_1, .int .i64 x246003_1] 34 (0, 0)) (kbq7 BK245.out) hb); have n2_ := Aside0.mk (blk_below (g := gb246) (o := .cells #[.int .i64 0, .int .i64 (-1), .int .i64 1, .int .i64 0] 34 (0, 0)) (kbq7 BK246.out) hb); have n3_ := Aside0.mk (below_step (lb3q7 HB.out GE244.out GE245.out GE246.out) hb); have n4_ := Aside0.mk (hbox); have n5_ := Aside0.mk ((by rw [hg]; exact (below_size (lb3q7 HB.out GE244.out GE245.out GE246.out)) : w.heap.size ≤ gb264)); have n6_ := Aside0.mk ((by rw [hg]; exact (below_size (lb3q7 HB.out GE244.out GE245.out GE246.out)) : w.heap.size ≤ gb264)); have n7_ := Aside0.mk ((by rw [hg]; exact Nat.ne_of_lt (blk_lt (g := gb244) (o := .cells #[.int .i64 x245000_1, .int .i64 x245001_1, .int .i64 x245002_1, .int .i64 x245003_1] 34 (0, 0)) (kbq7 BK244.out)) : gb244 ≠ gb264)); have n8_ := Aside0.mk ((by rw [hg]; exact Nat.ne_of_gt (blk_lt (g := gb244) (o := .cells #[.int .i64 x245000_1, .int .i64 x245001_1, .int .i64 x245002_1, .int .i64 x245003_1] 34 (0, 0)) (kbq7 BK244.out)) : gb264 ≠ gb244)); have n9_ := Aside0.mk ((by rw [hg]; exact Nat.ne_of_lt (blk_lt (g := gb245) (o := .cells #[.int .i64 x246000_1, .int .i64 x246001_1, .int .i64 x246002_1, .int .i64 x246003_1] 34 (0, 0)) (kbq7 BK245.out)) : gb245 ≠ gb264)); have n10_ := Aside0.mk ((by rw [hg]; exact Nat.ne_of_gt (blk_lt (g := gb245) (o := .cells #[.int .i64 x246000_1, .int .i64 x246001_1, .int .i64 x246002_1, .int .i64 x246003_1] 34 (0, 0)) (kbq7 BK245.out)) : gb264 ≠ gb245)); have n11_ := Aside0.mk ((by rw [hg]; exact Nat.ne_of_lt (blk_lt (g := gb246) (o := .cells #[.int .i64 0, .int .i64 (-1), .int .i64 1, .int .i64 0] 34 (0, 0)) (kbq7 BK246.out)) : gb246 ≠ gb264)); have n12_ := Aside0.mk ((by rw [hg]; exact Nat.ne_of_gt (blk_lt (g := gb246) (o := .cells #[.int .i64 0, .int .i64 (-1), .int .i64 1, .int .i64 0] 34 (0, 0)) (kbq7 BK246.out)) : gb264 ≠ gb246)); clear BK244; clear BK245; clear BK246; clear HB; have BK244 := n0_; have BK245 := n1_; have BK246 := n2_; have HB := n3_; have BK264 := n4_; have GW264 := n5_; have GE264 := n6_; have NB244_264 := n7_; have NB264_244 := n8_; have NB245_264 := n9_; have NB264_245 := n10_; have NB246_264 := n11_; have NB264_246 := n12_; clear n0_ n1_ n2_ n3_ n4_ n5_ n6_ n7_ n8_ n9_ n10_ n11_ n12_; clear hb hbox hg; have hnb78 := NB264_244.out; have hnc78 := NB244_264.out; have hnb79 := NB264_245.out; have hnc79 := NB245_264.out; have hnb80 := NB264_246.out; have hnc80 := NB246_264.out; have hcz81_0 : w77.cell? ⟨gb264, 0, none⟩ = some (.int .i64 0) := (blk_cell BK264.out 0).trans rfl; have hcz81_1 : w77.cell? ⟨gb264, 1, none⟩ = some (.int .i64 0) := (blk_cell BK264.out 1).trans rfl; have hcz81_2 : w77.cell? ⟨gb264, 2, none⟩ = some (.int .i64 0) := (blk_cell BK264.out 2).trans rfl; have hcz81_3 : w77.cell? ⟨gb264, 3, none⟩ = some (.int .i64 0) := (blk_cell BK264.out 3).trans rfl; have hfz81_0 := blk_frozen BK264.out 0; have hfz81_1 := blk_frozen BK264.out 1; have hfz81_2 := blk_frozen BK264.out 2; have hfz81_3 := blk_frozen BK264.out 3; have hcz82_0 : w77.cell? ⟨gb245, 0, none⟩ = some (.int .i64 x246000_1) := (blk_cell BK245.out 0).trans rfl; have hcz82_1 : w77.cell? ⟨gb245, 1, none⟩ = some (.int .i64 x246001_1) := (blk_cell BK245.out 1).trans rfl; have hcz82_2 : w77.cell? ⟨gb245, 2, none⟩ = some (.int .i64 x246002_1) := (blk_cell BK245.out 2).trans rfl; have hcz82_3 : w77.cell? ⟨gb245, 3, none⟩ = some (.int .i64 x246003_1) := (blk_cell BK245.out 3).trans rfl; have hfz82_0 := blk_frozen BK245.out 0; have hfz82_1 := blk_frozen BK245.out 1; have hfz82_2 := blk_frozen BK245.out 2; have hfz82_3 := blk_frozen BK245.out 3))
         go_roundg k1
         case measure => have := HK1.out; omega
         case rel => exact ⟨(wrap64 (x12_1 + 1)), (x245000_1), (x245001_1), (x245002_1), (x245003_1), (t259), (t260), (t261), (t262), (by first | rfl | (simp; done) | (simp [*]; done)), H', ⟨by have := HK1.out; omega⟩, ⟨kf2q7 BK244.out NB244_245.out NB244_264.out⟩, ⟨by (with_reducible repeat (first | refine blk_drewN ?_ _ | refine blk_drew ?_ | refine blk_alloc ?_ _)); refine blk_put (cs := #[.int .i64 t259, .int .i64 t260, .int .i64 t261, .int .i64 x246003_1]) ?_ 3 _ rfl; (with_reducible repeat (first | refine blk_drewN ?_ _ | refine blk_drew ?_ | refine blk_alloc ?_ _)); refine blk_put (cs := #[.int .i64 t259, .int .i64 t260, .int .i64 x246002_1, .int .i64 x246003_1]) ?_ 2 _ rfl; (with_reducible repeat (first | refine blk_drewN ?_ _ | refine blk_drew ?_ | refine blk_alloc ?_ _)); refine blk_put (cs := #[.int .i64 t259, .int .i64 x246001_1, .int .i64 x246002_1, .int .i64 x246003_1]) ?_ 1 _ rfl; (with_reducible repeat (first | refine blk_drewN ?_ _ | refine blk_drew ?_ | refine blk_alloc ?_ _)); refine blk_put (cs := #[.int .i64 x246000_1, .int .i64 x246001_1, .int .i64 x246002_1, .int .i64 x246003_1]) ?_ 0 _ rfl; (with_reducible repeat (first | refine blk_drewN ?_ _ | refine blk_drew ?_ | refine blk_alloc ?_ _)); refine blk_far ?_ NB245_264.out _; (with_reducible repeat (first | refine blk_drewN ?_ _ | refine blk_drew ?_ | refine blk_alloc ?_ _)); refine blk_far ?_ NB245_264.out _; (with_reducible repeat (first | refine blk_drewN ?_ _ | refine blk_drew ?_ | refine blk_alloc ?_ _)); refine blk_far ?_ NB245_264.out _; (with_reducible repeat (first | refine blk_drewN ?_ _ | refine blk_drew ?_ | refine blk_alloc ?_ _)); refine blk_far ?_ NB245_264.out _; (with_reducible repeat (first | refine blk_drewN ?_ _ | refine blk_drew ?_ | refine blk_alloc ?_ _)); exact BK245.out⟩, ⟨lb4q7 HB.out GE244.out GE245.out GE246.out GE264.out⟩⟩
        ·
         replace c69 := Bool.eq_false_iff.mpr c69
         subst c69
         have H1 : (some (0, 0, 0, 0, false)) = some (r1, r2, r3, r4, r5) := by rw [if_neg (show ¬ (false = true) by decide)] at H; exact H
         clear H
         have H := H1
         clear H1
         simp only [Option.some.injEq, Prod.mk.injEq] at H
         obtain ⟨rfl, rfl, rfl, rfl, rfl⟩ := H
         go_upto_region 11 with ((with_reducible refine gate_dst (N := 6) rfl ?_); refine box_event ?hg (N := 6) ?hd (cs := #[.int .i64 0, .int .i64 0, .int .i64 0, .int .i64 0]) (t := 34) ?hr ?_; (case hd => rfl); (case hg => rfl); (case hr => first | (go_simp; done) | (go_simp; rfl)); intro gb246 hg w83 hbox hb; have n0_ := Aside0.mk (blk_below (g := gb244) (o := .cells #[.int .i64 x245000_1, .int .i64 x245001_1, .int .i64 x245002_1, .int .i64 x245003_1] 34 (0, 0)) (kbq7 BK244.out) hb); have n1_ := Aside0.mk (blk_below (g := gb245) (o := .cells #[.int .i64 x246000_1, .int .i64 x246001_1, .int .i64 x246002_1, .int .i64 x246003_1] 34 (0, 0)) (kbq7 BK245.out) hb); have n2_ := Aside0.mk (below_step (lb2q7 HB.out GE244.out GE245.out) hb); have n3_ := Aside0.mk (hbox); have n4_ := Aside0.mk ((by rw [hg]; exact (below_size (lb2q7 HB.out GE244.out GE245.out)) : w.heap.size ≤ gb246)); have n5_ := Aside0.mk ((by rw [hg]; exact (below_size (lb2q7 HB.out GE244.out GE245.out)) : w.heap.size ≤ gb246)); have n6_ := Aside0.mk ((by rw [hg]; exact Nat.ne_of_lt (blk_lt (g := gb244) (o := .cells #[.int .i64 x245000_1, .int .i64 x245001_1, .int .i64 x245002_1, .int .i64 x245003_1] 34 (0, 0)) (kbq7 BK244.out)) : gb244 ≠ gb246)); have n7_ := Aside0.mk ((by rw [hg]; exact Nat.ne_of_gt (blk_lt (g := gb244) (o := .cells #[.int .i64 x245000_1, .int .i64 x245001_1, .int .i64 x245002_1, .int .i64 x245003_1] 34 (0, 0)) (kbq7 BK244.out)) : gb246 ≠ gb244)); have n8_ := Aside0.mk ((by rw [hg]; exact Nat.ne_of_lt (blk_lt (g := gb245) (o := .cells #[.int .i64 x246000_1, .int .i64 x246001_1, .int .i64 x246002_1, .int .i64 x246003_1] 34 (0, 0)) (kbq7 BK245.out)) : gb245 ≠ gb246)); have n9_ := Aside0.mk ((by rw [hg]; exact Nat.ne_of_gt (blk_lt (g := gb245) (o := .cells #[.int .i64 x246000_1, .int .i64 x246001_1, .int .i64 x246002_1, .int .i64 x246003_1] 34 (0, 0)) (kbq7 BK245.out)) : gb246 ≠ gb245)); clear BK244; clear BK245; clear HB; have BK244 := n0_; have BK245 := n1_; have HB := n2_; have BK246 := n3_; have GW246 := n4_; have GE246 := n5_; have NB244_246 := n6_; have NB246_244 := n7_; have NB245_246 := n8_; have NB246_245 := n9_; clear n0_ n1_ n2_ n3_ n4_ n5_ n6_ n7_ n8_ n9_; clear hb hbox hg; have hnb84 := NB246_244.out; have hnc84 := NB244_246.out; have hnb85 := NB246_245.out; have hnc85 := NB245_246.out; have hcz86_0 : w83.cell? ⟨gb246, 0, none⟩ = some (.int .i64 0) := (blk_cell BK246.out 0).trans rfl; have hcz86_1 : w83.cell? ⟨gb246, 1, none⟩ = some (.int .i64 0) := (blk_cell BK246.out 1).trans rfl; have hcz86_2 : w83.cell? ⟨gb246, 2, none⟩ = some (.int .i64 0) := (blk_cell BK246.out 2).trans rfl; have hcz86_3 : w83.cell? ⟨gb246, 3, none⟩ = some (.int .i64 0) := (blk_cell BK246.out 3).trans rfl; have hfz86_0 := blk_frozen BK246.out 0; have hfz86_1 := blk_frozen BK246.out 1; have hfz86_2 := blk_frozen BK246.out 2; have hfz86_3 := blk_frozen BK246.out 3; have p9 : 0 ≤ (x12_1 : Int) := of_decide_eq_true (by first | (with_reducible assumption) | assumption); have q9 : x12_1 < (a0.size : Int) := of_decide_eq_true (by first | (with_reducible assumption) | assumption); have hx9 := bt_at a0 x12_1; replace p9 := eq_true p9; replace q9 := eq_true q9; have hnb87 := NB245_244.out; have hnc87 := NB244_245.out; have hcz88_0 : w83.cell? ⟨gb245, 0, none⟩ = some (.int .i64 x246000_1) := (blk_cell BK245.out 0).trans rfl; have hcz88_1 : w83.cell? ⟨gb245, 1, none⟩ = some (.int .i64 x246001_1) := (blk_cell BK245.out 1).trans rfl; have hcz88_2 : w83.cell? ⟨gb245, 2, none⟩ = some (.int .i64 x246002_1) := (blk_cell BK245.out 2).trans rfl; have hcz88_3 : w83.cell? ⟨gb245, 3, none⟩ = some (.int .i64 x246003_1) := (blk_cell BK245.out 3).trans rfl; have hfz88_0 := blk_frozen BK245.out 0; have hfz88_1 := blk_frozen BK245.out 1; have hfz88_2 := blk_frozen BK245.out 2; have hfz88_3 := blk_frozen BK245.out 3)
         generalize hq_ : World.setCell _ _ _ = wc
         have mgb244_ : Aside0 (wc.heap[gb244]? = some (.cells #[.int .i64 x245000_1, .int .i64 x245001_1, .int .i64 x245002_1, .int .i64 x245003_1] 34 (0, 0))) := ⟨by rw [← hq_]; exact (kf1q7 BK244.out NB244_246.out)⟩
         have mgb245_ : Aside0 (wc.heap[gb245]? = some (.cells #[.int .i64 x246000_1, .int .i64 x246001_1, .int .i64 x246002_1, .int .i64 x246003_1] 34 (0, 0))) := ⟨by rw [← hq_]; exact (kf1q7 BK245.out NB245_246.out)⟩
         have mgb246_ : Aside0 (wc.heap[gb246]? = some (.cells #[.int .i64 0, .int .i64 (-1), .int .i64 1, .int .i64 0] 34 (0, 0))) := ⟨by rw [← hq_]; exact (by (with_reducible repeat (first | refine blk_drewN ?_ _ | refine blk_drew ?_ | refine blk_alloc ?_ _)); refine blk_put (cs := #[.int .i64 0, .int .i64 (-1), .int .i64 1, .int .i64 0]) ?_ 3 _ rfl; (with_reducible repeat (first | refine blk_drewN ?_ _ | refine blk_drew ?_ | refine blk_alloc ?_ _)); refine blk_put (cs := #[.int .i64 0, .int .i64 (-1), .int .i64 0, .int .i64 0]) ?_ 2 _ rfl; (with_reducible repeat (first | refine blk_drewN ?_ _ | refine blk_drew ?_ | refine blk_alloc ?_ _)); refine blk_put (cs := #[.int .i64 0, .int .i64 0, .int .i64 0, .int .i64 0]) ?_ 1 _ rfl; (with_reducible repeat (first | refine blk_drewN ?_ _ | refine blk_drew ?_ | refine blk_alloc ?_ _)); refine blk_put (cs := #[.int .i64 0, .int .i64 0, .int .i64 0, .int .i64 0]) ?_ 0 _ rfl; (with_reducible repeat (first | refine blk_drewN ?_ _ | refine blk_drew ?_ | refine blk_alloc ?_ _)); exact BK246.out)⟩
         have mHB_ : Aside0 (Below w.heap.size w wc) := ⟨by rw [← hq_]; exact (lb3q7 HB.out GE244.out GE245.out GE246.out)⟩
         clear BK244 BK245 BK246 HB hq_
         have BK244 := mgb244_
         have BK245 := mgb245_
         have BK246 := mgb246_
         have HB := mHB_
         clear mgb244_ mgb245_ mgb246_ mHB_
         have hcxgb244_0 : wc.cell? ⟨gb244, 0, none⟩ = some (.int .i64 x245000_1) := (blk_cell BK244.out 0).trans rfl
         have hfxgb244_0 := blk_frozen BK244.out 0
         have hcxgb244_1 : wc.cell? ⟨gb244, 1, none⟩ = some (.int .i64 x245001_1) := (blk_cell BK244.out 1).trans rfl
         have hfxgb244_1 := blk_frozen BK244.out 1
         have hcxgb244_2 : wc.cell? ⟨gb244, 2, none⟩ = some (.int .i64 x245002_1) := (blk_cell BK244.out 2).trans rfl
         have hfxgb244_2 := blk_frozen BK244.out 2
         have hcxgb244_3 : wc.cell? ⟨gb244, 3, none⟩ = some (.int .i64 x245003_1) := (blk_cell BK244.out 3).trans rfl
         have hfxgb244_3 := blk_frozen BK244.out 3
         have hcxgb245_0 : wc.cell? ⟨gb245, 0, none⟩ = some (.int .i64 x246000_1) := (blk_cell BK245.out 0).trans rfl
         have hfxgb245_0 := blk_frozen BK245.out 0
         have hcxgb245_1 : wc.cell? ⟨gb245, 1, none⟩ = some (.int .i64 x246001_1) := (blk_cell BK245.out 1).trans rfl
         have hfxgb245_1 := blk_frozen BK245.out 1
         have hcxgb245_2 : wc.cell? ⟨gb245, 2, none⟩ = some (.int .i64 x246002_1) := (blk_cell BK245.out 2).trans rfl
         have hfxgb245_2 := blk_frozen BK245.out 2
         have hcxgb245_3 : wc.cell? ⟨gb245, 3, none⟩ = some (.int .i64 x246003_1) := (blk_cell BK245.out 3).trans rfl
         have hfxgb245_3 := blk_frozen BK245.out 3
         have hcxgb246_0 : wc.cell? ⟨gb246, 0, none⟩ = some (.int .i64 0) := (blk_cell BK246.out 0).trans rfl
         have hfxgb246_0 := blk_frozen BK246.out 0
         have hcxgb246_1 : wc.cell? ⟨gb246, 1, none⟩ = some (.int .i64 (-1)) := (blk_cell BK246.out 1).trans rfl
         have hfxgb246_1 := blk_frozen BK246.out 1
         have hcxgb246_2 : wc.cell? ⟨gb246, 2, none⟩ = some (.int .i64 1) := (blk_cell BK246.out 2).trans rfl
         have hfxgb246_2 := blk_frozen BK246.out 2
         have hcxgb246_3 : wc.cell? ⟨gb246, 3, none⟩ = some (.int .i64 0) := (blk_cell BK246.out 3).trans rfl
         have hfxgb246_3 := blk_frozen BK246.out 3
         go_wp2_with (first | ((with_reducible refine gate_callee (f := 61) rfl ?_); refine goesL_ (some 28) rfl rfl Tryd.func61 (by kernel_rfl) rfl #[.agg #[.int .i64 x246000_1, .int .i64 x246001_1, .int .i64 x246002_1, .int .i64 x246003_1], .agg #[.int .i64 0, .int .i64 (-1), .int .i64 1, .int .i64 0]] rfl (by (try simp only [List.map_toArray, List.map_cons, List.map_nil]); first | done | rfl | (simp only [List.length_drop, List.length_take]; rfl)) ?_; (with_reducible refine (impl_behind.calls k1 x246000_1 x246001_1 x246002_1 x246003_1 0 (-1) 1 0 t259 t260 t261 t262 false _ A68.out).mono ?_); rintro e w89 ⟨rfl, hb⟩; refine ⟨_, rfl, ?_⟩; have n0_ := Aside0.mk (blk_below (g := gb244) (o := .cells #[.int .i64 x245000_1, .int .i64 x245001_1, .int .i64 x245002_1, .int .i64 x245003_1] 34 (0, 0)) (kbq7 BK244.out) hb); have n1_ := Aside0.mk (blk_below (g := gb245) (o := .cells #[.int .i64 x246000_1, .int .i64 x246001_1, .int .i64 x246002_1, .int .i64 x246003_1] 34 (0, 0)) (kbq7 BK245.out) hb); have n2_ := Aside0.mk (blk_below (g := gb246) (o := .cells #[.int .i64 0, .int .i64 (-1), .int .i64 1, .int .i64 0] 34 (0, 0)) (kbq7 BK246.out) hb); have n3_ := Aside0.mk (below_step (lb3q7 HB.out GE244.out GE245.out GE246.out) hb); clear BK244; clear BK245; clear BK246; clear HB; have BK244 := n0_; have BK245 := n1_; have BK246 := n2_; have HB := n3_; clear n0_ n1_ n2_ n3_; (try clear hb); (try clear hb2); (try clear hk); (try clear hi)) | ((with_reducible refine gate_dst (N := 7) rfl ?_); refine box_event ?hg (N := 7) ?hd (cs := #[.int .i64 0, .int .i64 0, .int .i64 0, .int .i64 0]) (t := 34) ?hr ?_; (case hd => rfl); (case hg => rfl); (case hr => first | (go_simp; done) | (go_simp; rfl)); intro gb264 hg w90 hbox hb; have n0_ := Aside0.mk (blk_below (g := gb244) (o := .cells #[.int .i64 x245000_1, .int .i64 x245001_1, .int .i64 x245002_1, .int .i64 x245003_1] 34 (0, 0)) (kbq7 BK244.out) hb); have n1_ := Aside0.mk (blk_below (g := gb245) (o := .cells #[.int .i64 x246000_1, .int .i64 x246001_1, .int .i64 x246002_1, .int .i64 x246003_1] 34 (0, 0)) (kbq7 BK245.out) hb); have n2_ := Aside0.mk (blk_below (g := gb246) (o := .cells #[.int .i64 0, .int .i64 (-1), .int .i64 1, .int .i64 0] 34 (0, 0)) (kbq7 BK246.out) hb); have n3_ := Aside0.mk (below_step (lb3q7 HB.out GE244.out GE245.out GE246.out) hb); have n4_ := Aside0.mk (hbox); have n5_ := Aside0.mk ((by rw [hg]; exact (below_size (lb3q7 HB.out GE244.out GE245.out GE246.out)) : w.heap.size ≤ gb264)); have n6_ := Aside0.mk ((by rw [hg]; exact (below_size (lb3q7 HB.out GE244.out GE245.out GE246.out)) : w.heap.size ≤ gb264)); have n7_ := Aside0.mk ((by rw [hg]; exact Nat.ne_of_lt (blk_lt (g := gb244) (o := .cells #[.int .i64 x245000_1, .int .i64 x245001_1, .int .i64 x245002_1, .int .i64 x245003_1] 34 (0, 0)) (kbq7 BK244.out)) : gb244 ≠ gb264)); have n8_ := Aside0.mk ((by rw [hg]; exact Nat.ne_of_gt (blk_lt (g := gb244) (o := .cells #[.int .i64 x245000_1, .int .i64 x245001_1, .int .i64 x245002_1, .int .i64 x245003_1] 34 (0, 0)) (kbq7 BK244.out)) : gb264 ≠ gb244)); have n9_ := Aside0.mk ((by rw [hg]; exact Nat.ne_of_lt (blk_lt (g := gb245) (o := .cells #[.int .i64 x246000_1, .int .i64 x246001_1, .int .i64 x246002_1, .int .i64 x246003_1] 34 (0, 0)) (kbq7 BK245.out)) : gb245 ≠ gb264)); have n10_ := Aside0.mk ((by rw [hg]; exact Nat.ne_of_gt (blk_lt (g := gb245) (o := .cells #[.int .i64 x246000_1, .int .i64 x246001_1, .int .i64 x246002_1, .int .i64 x246003_1] 34 (0, 0)) (kbq7 BK245.out)) : gb264 ≠ gb245)); have n11_ := Aside0.mk ((by rw [hg]; exact Nat.ne_of_lt (blk_lt (g := gb246) (o := .cells #[.int .i64 0, .int .i64 (-1), .int .i64 1, .int .i64 0] 34 (0, 0)) (kbq7 BK246.out)) : gb246 ≠ gb264)); have n12_ := Aside0.mk ((by rw [hg]; exact Nat.ne_of_gt (blk_lt (g := gb246) (o := .cells #[.int .i64 0, .int .i64 (-1), .int .i64 1, .int .i64 0] 34 (0, 0)) (kbq7 BK246.out)) : gb264 ≠ gb246)); clear BK244; clear BK245; clear BK246; clear HB; have BK244 := n0_; have BK245 := n1_; have BK246 := n2_; have HB := n3_; have BK264 := n4_; have GW264 := n5_; have GE264 := n6_; have NB244_264 := n7_; have NB264_244 := n8_; have NB245_264 := n9_; have NB264_245 := n10_; have NB246_264 := n11_; have NB264_246 := n12_; clear n0_ n1_ n2_ n3_ n4_ n5_ n6_ n7_ n8_ n9_ n10_ n11_ n12_; clear hb hbox hg; have hnb91 := NB264_244.out; have hnc91 := NB244_264.out; have hnb92 := NB264_245.out; have hnc92 := NB245_264.out; have hnb93 := NB264_246.out; have hnc93 := NB246_264.out; have hcz94_0 : w90.cell? ⟨gb264, 0, none⟩ = some (.int .i64 0) := (blk_cell BK264.out 0).trans rfl; have hcz94_1 : w90.cell? ⟨gb264, 1, none⟩ = some (.int .i64 0) := (blk_cell BK264.out 1).trans rfl; have hcz94_2 : w90.cell? ⟨gb264, 2, none⟩ = some (.int .i64 0) := (blk_cell BK264.out 2).trans rfl; have hcz94_3 : w90.cell? ⟨gb264, 3, none⟩ = some (.int .i64 0) := (blk_cell BK264.out 3).trans rfl; have hfz94_0 := blk_frozen BK264.out 0; have hfz94_1 := blk_frozen BK264.out 1; have hfz94_2 := blk_frozen BK264.out 2; have hfz94_3 := blk_frozen BK264.out 3; have hcz95_0 : w90.cell? ⟨gb244, 0, none⟩ = some (.int .i64 x245000_1) := (blk_cell BK244.out 0).trans rfl; have hcz95_1 : w90.cell? ⟨gb244, 1, none⟩ = some (.int .i64 x245001_1) := (blk_cell BK244.out 1).trans rfl; have hcz95_2 : w90.cell? ⟨gb244, 2, none⟩ = some (.int .i64 x245002_1) := (blk_cell BK244.out 2).trans rfl; have hcz95_3 : w90.cell? ⟨gb244, 3, none⟩ = some (.int .i64 x245003_1) := (blk_cell BK244.out 3).trans rfl; have hfz95_0 := blk_frozen BK244.out 0; have hfz95_1 := blk_frozen BK244.out 1; have hfz95_2 := blk_frozen BK244.out 2; have hfz95_3 := blk_frozen BK244.out 3))
         refine bodyPost_ret (results_ct rfl _ _ gb244 34 #[.int .i64 0, .int .i64 0, .int .i64 0, .int .i64 0] (0, 0) _ rfl (by (with_reducible repeat (first | refine blk_drewN ?_ _ | refine blk_drew ?_ | refine blk_alloc ?_ _)); refine blk_put (cs := #[.int .i64 0, .int .i64 0, .int .i64 0, .int .i64 x245003_1]) ?_ 3 _ rfl; (with_reducible repeat (first | refine blk_drewN ?_ _ | refine blk_drew ?_ | refine blk_alloc ?_ _)); refine blk_put (cs := #[.int .i64 0, .int .i64 0, .int .i64 x245002_1, .int .i64 x245003_1]) ?_ 2 _ rfl; (with_reducible repeat (first | refine blk_drewN ?_ _ | refine blk_drew ?_ | refine blk_alloc ?_ _)); refine blk_put (cs := #[.int .i64 0, .int .i64 x245001_1, .int .i64 x245002_1, .int .i64 x245003_1]) ?_ 1 _ rfl; (with_reducible repeat (first | refine blk_drewN ?_ _ | refine blk_drew ?_ | refine blk_alloc ?_ _)); refine blk_put (cs := #[.int .i64 x245000_1, .int .i64 x245001_1, .int .i64 x245002_1, .int .i64 x245003_1]) ?_ 0 _ rfl; (with_reducible repeat (first | refine blk_drewN ?_ _ | refine blk_drew ?_ | refine blk_alloc ?_ _)); refine blk_far ?_ NB244_264.out _; (with_reducible repeat (first | refine blk_drewN ?_ _ | refine blk_drew ?_ | refine blk_alloc ?_ _)); refine blk_far ?_ NB244_264.out _; (with_reducible repeat (first | refine blk_drewN ?_ _ | refine blk_drew ?_ | refine blk_alloc ?_ _)); refine blk_far ?_ NB244_264.out _; (with_reducible repeat (first | refine blk_drewN ?_ _ | refine blk_drew ?_ | refine blk_alloc ?_ _)); refine blk_far ?_ NB244_264.out _; (with_reducible repeat (first | refine blk_drewN ?_ _ | refine blk_drew ?_ | refine blk_alloc ?_ _)); exact BK244.out) Tryd.underlying34 rfl (by kernel_rfl)) rfl ?_
         exact ⟨by first | rfl | (simp [errW_none, errW_some] <;> rfl) | (simp [*, errW_none, errW_some] <;> rfl), by repeat (first | (with_reducible first | exact HB.out | apply below_alloc | apply pw_below_drewN | apply below_drew1 | refine below_set ?_ GE244.out | refine below_set ?_ GE245.out | refine below_set ?_ GE246.out | refine below_set ?_ GE264.out) | exact HB.out)⟩
     ·
      rw [if_neg c8] at H
      exact absurd H (by simp)
    ·
     rw [if_neg c7] at H
     exact absurd H (by simp)
   ·
    rw [if_neg c6] at H
    have c6b0 : decide (x12_1 < (a0.size : Int)) = false := decide_eq_false c6
    clear c6
    simp only [Option.some.injEq, Prod.mk.injEq] at H
    obtain ⟨rfl, rfl, rfl, rfl, rfl⟩ := H
    have hnb96 := NB245_244.out
    have hnc96 := NB244_245.out
    have hcz97_0 : wr.cell? ⟨gb245, 0, none⟩ = some (.int .i64 x246000_1) := (blk_cell BK245.out 0).trans rfl
    have hcz97_1 : wr.cell? ⟨gb245, 1, none⟩ = some (.int .i64 x246001_1) := (blk_cell BK245.out 1).trans rfl
    have hcz97_2 : wr.cell? ⟨gb245, 2, none⟩ = some (.int .i64 x246002_1) := (blk_cell BK245.out 2).trans rfl
    have hcz97_3 : wr.cell? ⟨gb245, 3, none⟩ = some (.int .i64 x246003_1) := (blk_cell BK245.out 3).trans rfl
    have hfz97_0 := blk_frozen BK245.out 0
    have hfz97_1 := blk_frozen BK245.out 1
    have hfz97_2 := blk_frozen BK245.out 2
    have hfz97_3 := blk_frozen BK245.out 3
    have hcz98_0 : wr.cell? ⟨gb244, 0, none⟩ = some (.int .i64 x245000_1) := (blk_cell BK244.out 0).trans rfl
    have hcz98_1 : wr.cell? ⟨gb244, 1, none⟩ = some (.int .i64 x245001_1) := (blk_cell BK244.out 1).trans rfl
    have hcz98_2 : wr.cell? ⟨gb244, 2, none⟩ = some (.int .i64 x245002_1) := (blk_cell BK244.out 2).trans rfl
    have hcz98_3 : wr.cell? ⟨gb244, 3, none⟩ = some (.int .i64 x245003_1) := (blk_cell BK244.out 3).trans rfl
    have hfz98_0 := blk_frozen BK244.out 0
    have hfz98_1 := blk_frozen BK244.out 1
    have hfz98_2 := blk_frozen BK244.out 2
    have hfz98_3 := blk_frozen BK244.out 3
    go_wp2
    refine bodyPost_ret (results_ct rfl _ _ gb244 34 #[.int .i64 x246000_1, .int .i64 x246001_1, .int .i64 x246002_1, .int .i64 x246003_1] (0, 0) _ rfl (by (with_reducible repeat (first | refine blk_drewN ?_ _ | refine blk_drew ?_ | refine blk_alloc ?_ _)); refine blk_put (cs := #[.int .i64 x246000_1, .int .i64 x246001_1, .int .i64 x246002_1, .int .i64 x245003_1]) ?_ 3 _ rfl; (with_reducible repeat (first | refine blk_drewN ?_ _ | refine blk_drew ?_ | refine blk_alloc ?_ _)); refine blk_put (cs := #[.int .i64 x246000_1, .int .i64 x246001_1, .int .i64 x245002_1, .int .i64 x245003_1]) ?_ 2 _ rfl; (with_reducible repeat (first | refine blk_drewN ?_ _ | refine blk_drew ?_ | refine blk_alloc ?_ _)); refine blk_put (cs := #[.int .i64 x246000_1, .int .i64 x245001_1, .int .i64 x245002_1, .int .i64 x245003_1]) ?_ 1 _ rfl; (with_reducible repeat (first | refine blk_drewN ?_ _ | refine blk_drew ?_ | refine blk_alloc ?_ _)); refine blk_put (cs := #[.int .i64 x245000_1, .int .i64 x245001_1, .int .i64 x245002_1, .int .i64 x245003_1]) ?_ 0 _ rfl; (with_reducible repeat (first | refine blk_drewN ?_ _ | refine blk_drew ?_ | refine blk_alloc ?_ _)); exact BK244.out) Tryd.underlying34 rfl (by kernel_rfl)) rfl ?_
    exact ⟨by first | rfl | (simp [errW_none, errW_some] <;> rfl) | (simp [*, errW_none, errW_some] <;> rfl), by repeat (first | (with_reducible first | exact HB.out | apply below_alloc | apply pw_below_drewN | apply below_drew1 | refine below_set ?_ GE244.out | refine below_set ?_ GE245.out) | exact HB.out)⟩

/-! ### impl_NormalOf: function 15 -/
def impl_NormalOf.l0 : Nat → List Int → Int → Int → Int → Int → Int → Int → Option (ByteArray × Bool)
  | 0, _, _, _, _, _, _, _ => none
  | k + 1, x22, x23, x24, x266000, x266001, x266002, x266003 => if x24 < x23 then (if 0 ≤ x24 then (if x24 < (x22.length : Int) then (if (rd x22 x24) < (-12) then (some ((⟨#[]⟩ : ByteArray), false)) else (if (rd x22 x24) > 12 then (some ((⟨#[]⟩ : ByteArray), false)) else (impl_NormalOf.l0 k x22 x23 (wrap64 (x24 + 1)) x266000 x266001 x266002 x266003))) else (none)) else (none)) else (if x266002 = 0 then ((impl_twists.f x266001).bind fun t271 => (some (t271, true))) else ((impl_danceFor.f k x266000 x266002).bind fun t272 => (if 1 + t272.size ≤ 9223372036854775807 then ((impl_mapOf.f k ((⟨#[82]⟩ : ByteArray) ++ t272)).bind fun bt273 => (if (wrap64 ((wrap64 (bt273.2.2.2.1 * x266000)) - (wrap64 (bt273.2.1 * x266002)))) < 0 then ((impl_twists.f (wrap64 (-(wrap64 ((wrap64 (bt273.2.2.2.1 * x266001)) - (wrap64 (bt273.2.1 * x266003))))))).bind fun t279 => (if t279.size + ((⟨#[82]⟩ : ByteArray) ++ t272).size ≤ 9223372036854775807 then (if ((t279 ++ ((⟨#[82]⟩ : ByteArray) ++ t272)).size : Int) > 200 then (some ((⟨#[]⟩ : ByteArray), false)) else (some (t279 ++ ((⟨#[82]⟩ : ByteArray) ++ t272), true))) else (none))) else ((impl_twists.f (wrap64 ((wrap64 (bt273.2.2.2.1 * x266001)) - (wrap64 (bt273.2.1 * x266003))))).bind fun t280 => (if t280.size + ((⟨#[82]⟩ : ByteArray) ++ t272).size ≤ 9223372036854775807 then (if ((t280 ++ ((⟨#[82]⟩ : ByteArray) ++ t272)).size : Int) > 200 then (some ((⟨#[]⟩ : ByteArray), false)) else (some (t280 ++ ((⟨#[82]⟩ : ByteArray) ++ t272), true))) else (none))))) else (none))))
def impl_NormalOf.f (k : Nat) (a0_0 : Int) (a0_1 : Int) (a0_2 : Int) (a0_3 : Int) : Option (ByteArray × Bool) := (impl_isMap.f a0_0 a0_1 a0_2 a0_3).bind fun t266 => (if t266 = true then ((some (([a0_0, a0_1, a0_2, a0_3] : List Int) : List Int)).bind fun y267 => (impl_NormalOf.l0 k y267 (y267.length : Int) 0 a0_0 a0_1 a0_2 a0_3)) else (some ((⟨#[]⟩ : ByteArray), false)))
theorem impl_NormalOf.mono_l : ∀ k, (∀ y0 y1 y2 y3 y4 y5 y6, LeO (impl_NormalOf.l0 k y0 y1 y2 y3 y4 y5 y6) (impl_NormalOf.l0 (k + 1) y0 y1 y2 y3 y4 y5 y6))
  | 0 => fun _ _ _ _ _ _ _ r h => by simp [impl_NormalOf.l0] at h
  | k + 1 => by
    have ih0 := impl_NormalOf.mono_l k
    · intro y0 y1 y2 y3 y4 y5 y6
      unfold impl_NormalOf.l0
      repeat' first
      | (with_reducible exact ih0 _ _ _ _ _ _ _)
      | (with_reducible exact impl_danceFor.mono _ _ _)
      | (with_reducible exact impl_mapOf.mono _ _)
      | (with_reducible exact LeO.refl _)
      | (with_reducible exact LeO.none _)
      | (with_reducible refine LeO.ite ?_ ?_)
      | (with_reducible refine LeO.bind ?_ (fun _ => ?_))
      | exact ih0 _ _ _ _ _ _ _
      | exact impl_danceFor.mono _ _ _
      | exact impl_mapOf.mono _ _
      | exact LeO.none _
      | refine LeO.ite ?_ ?_
      | refine LeO.bind ?_ (fun _ => ?_)
theorem impl_NormalOf.mono : ∀ a0 a1 a2 a3 k, LeO (impl_NormalOf.f k a0 a1 a2 a3) (impl_NormalOf.f (k + 1) a0 a1 a2 a3) := by
  intro a0 a1 a2 a3 k
  have ih0 := impl_NormalOf.mono_l k
  unfold impl_NormalOf.f
  repeat' first
      | (with_reducible exact ih0 _ _ _ _ _ _ _)
      | (with_reducible exact impl_danceFor.mono _ _ _)
      | (with_reducible exact impl_mapOf.mono _ _)
      | (with_reducible exact LeO.refl _)
      | (with_reducible exact LeO.none _)
      | (with_reducible refine LeO.ite ?_ ?_)
      | (with_reducible refine LeO.bind ?_ (fun _ => ?_))
      | exact ih0 _ _ _ _ _ _ _
      | exact impl_danceFor.mono _ _ _
      | exact impl_mapOf.mono _ _
      | exact LeO.none _
      | refine LeO.ite ?_ ?_
      | refine LeO.bind ?_ (fun _ => ?_)
set_option maxHeartbeats 8000000 in
set_option maxRecDepth 100000 in
theorem impl_NormalOf.calls (k : Nat) (a0_0 : Int) (a0_1 : Int) (a0_2 : Int) (a0_3 : Int) (r1 : ByteArray) (r2 : Bool) (w : World) (h : impl_NormalOf.f k a0_0 a0_1 a0_2 a0_3 = some (r1, r2)) :
  Calls Tryd.prog 15 #[.agg #[.int .i64 a0_0, .int .i64 a0_1, .int .i64 a0_2, .int .i64 a0_3]] w fun e w' => e = .returned (.tuple #[.string r1, .bool r2]) ∧ Below w.heap.size w w' := by
 have hu34 := Tryd.underlying34
 have hu24 := Tryd.underlying24
 have HB := Aside0.mk (Below.refl w.heap.size w)
 have H : ((impl_isMap.f a0_0 a0_1 a0_2 a0_3).bind fun t266 => (if t266 = true then ((some (([a0_0, a0_1, a0_2, a0_3] : List Int) : List Int)).bind fun y267 => (impl_NormalOf.l0 k y267 (y267.length : Int) 0 a0_0 a0_1 a0_2 a0_3)) else (some ((⟨#[]⟩ : ByteArray), false)))) = some (r1, r2) := h
 clear h
 replace H := Option.bind_eq_some_iff.mp H
 obtain ⟨t266, A20, H⟩ := H
 replace H : (if t266 = true then ((some (([a0_0, a0_1, a0_2, a0_3] : List Int) : List Int)).bind fun y267 => (impl_NormalOf.l0 k y267 (y267.length : Int) 0 a0_0 a0_1 a0_2 a0_3)) else (some ((⟨#[]⟩ : ByteArray), false))) = some (r1, r2) := H
 have A2 := Aside0.mk A20
 clear A20
 by_cases c3 : t266 = true
 ·
  subst c3
  have H1 : ((some (([a0_0, a0_1, a0_2, a0_3] : List Int) : List Int)).bind fun y267 => (impl_NormalOf.l0 k y267 (y267.length : Int) 0 a0_0 a0_1 a0_2 a0_3)) = some (r1, r2) := by rw [if_pos rfl] at H; exact H
  clear H
  have H := H1
  clear H1
  obtain ⟨y267, hy267⟩ : ∃ y_ : List Int, y_ = (([a0_0, a0_1, a0_2, a0_3] : List Int)) := ⟨_, rfl⟩
  replace H : (impl_NormalOf.l0 k y267 (y267.length : Int) 0 a0_0 a0_1 a0_2 a0_3) = some (r1, r2) := by first | (rw [hy267]; with_reducible exact H) | (have H2_ := (Option.bind_some _ _).symm.trans H; rw [hy267]; with_reducible exact H2_) | (have H2_ := (Option.bind_some _ _).symm.trans H; with_reducible exact H2_) | with_reducible exact H | (rw [hy267]; exact H) | exact H
  have Ny267 := Aside0.mk hy267
  clear hy267
  have H' := Aside0.mk H
  clear H
  go_enter Tryd.func15, Tryd.ntmps15
  go_wp2_with (first | ((with_reducible refine gate_dst (N := 1) rfl ?_); refine box_event ?hg (N := 1) ?hd (cs := #[.int .i64 a0_0, .int .i64 a0_1, .int .i64 a0_2, .int .i64 a0_3]) (t := 34) ?hr ?_; (case hd => rfl); (case hg => rfl); (case hr => first | (go_simp; done) | (go_simp; rfl)); intro gb265 hg w4 hbox hb; have n0_ := Aside0.mk (below_step (lb0q7 HB.out) hb); have n1_ := Aside0.mk (hbox); have n2_ := Aside0.mk ((by rw [hg]; exact (below_size (lb0q7 HB.out)) : w.heap.size ≤ gb265)); have n3_ := Aside0.mk ((by rw [hg]; exact (below_size (lb0q7 HB.out)) : w.heap.size ≤ gb265)); clear HB; have HB := n0_; have BK265 := n1_; have GW265 := n2_; have GE265 := n3_; clear n0_ n1_ n2_ n3_; clear hb hbox hg; have hcz5_0 : w4.cell? ⟨gb265, 0, none⟩ = some (.int .i64 a0_0) := (blk_cell BK265.out 0).trans rfl; have hcz5_1 : w4.cell? ⟨gb265, 1, none⟩ = some (.int .i64 a0_1) := (blk_cell BK265.out 1).trans rfl; have hcz5_2 : w4.cell? ⟨gb265, 2, none⟩ = some (.int .i64 a0_2) := (blk_cell BK265.out 2).trans rfl; have hcz5_3 : w4.cell? ⟨gb265, 3, none⟩ = some (.int .i64 a0_3) := (blk_cell BK265.out 3).trans rfl; have hfz5_0 := blk_frozen BK265.out 0; have hfz5_1 := blk_frozen BK265.out 1; have hfz5_2 := blk_frozen BK265.out 2; have hfz5_3 := blk_frozen BK265.out 3) | ((with_reducible refine gate_callee (f := 34) rfl ?_); refine goesL_ (some 12) rfl rfl Tryd.func34 (by kernel_rfl) rfl #[.agg #[.int .i64 a0_0, .int .i64 a0_1, .int .i64 a0_2, .int .i64 a0_3]] rfl (by (try simp only [List.map_toArray, List.map_cons, List.map_nil]); first | done | rfl | (simp only [List.length_drop, List.length_take]; rfl)) ?_; (with_reducible refine (impl_isMap.calls a0_0 a0_1 a0_2 a0_3 true _ A2.out).mono ?_); rintro e w6 ⟨rfl, hb⟩; refine ⟨_, rfl, ?_⟩; have n0_ := Aside0.mk (blk_below (g := gb265) (o := .cells #[.int .i64 a0_0, .int .i64 a0_1, .int .i64 a0_2, .int .i64 a0_3] 34 (0, 0)) (kbq7 BK265.out) hb); have n1_ := Aside0.mk (below_step (lb1q7 HB.out GE265.out) hb); clear BK265; clear HB; have BK265 := n0_; have HB := n1_; clear n0_ n1_; (try clear hb); (try clear hb2); (try clear hk); (try clear hi); have hcz7_0 : w6.cell? ⟨gb265, 0, none⟩ = some (.int .i64 a0_0) := (blk_cell BK265.out 0).trans rfl; have hcz7_1 : w6.cell? ⟨gb265, 1, none⟩ = some (.int .i64 a0_1) := (blk_cell BK265.out 1).trans rfl; have hcz7_2 : w6.cell? ⟨gb265, 2, none⟩ = some (.int .i64 a0_2) := (blk_cell BK265.out 2).trans rfl; have hcz7_3 : w6.cell? ⟨gb265, 3, none⟩ = some (.int .i64 a0_3) := (blk_cell BK265.out 3).trans rfl; have hfz7_0 := blk_frozen BK265.out 0; have hfz7_1 := blk_frozen BK265.out 1; have hfz7_2 := blk_frozen BK265.out 2; have hfz7_3 := blk_frozen BK265.out 3) | ((with_reducible refine gate_dst (N := 22) rfl ?_); refine Kd.R_lit (Kd.int .i64) _ 3 ?hg (N := 22) ?hd (xs := ([a0_0, a0_1, a0_2, a0_3] : List Int)) (inner := [.int .i64 a0_0, .int .i64 a0_1, .int .i64 a0_2, .int .i64 a0_3]) (ok := fun _ => True) (okp := fun _ => True) ?hr ?hp (fun _ hk => hk) trivial (Below.refl _ _) (Nat.le_refl _) (by simp) ?_; (case hd => rfl); (case hg => rfl); (case hr => first | (go_simp; done) | (go_simp; rfl)); (case hp => exact (Reps.one (show Kd.M (Kd.int .i64) _ _ _ a0_0 [.int .i64 a0_0] from rfl) (Reps.one (show Kd.M (Kd.int .i64) _ _ _ a0_1 [.int .i64 a0_1] from rfl) (Reps.one (show Kd.M (Kd.int .i64) _ _ _ a0_2 [.int .i64 a0_2] from rfl) (Reps.one (show Kd.M (Kd.int .i64) _ _ _ a0_3 [.int .i64 a0_3] from rfl) (Reps.none _ _)))))); intro v268 w8 ho9 hb hg_ hnew_; clear hg_ hnew_; (first | rw [← Ny267.out] at ho9 | (simp only [Int.reduceToNat] at ho9; rw [← Ny267.out] at ho9)); have n0_ := Aside0.mk (Kd.R_lower ho9 (below_size (lb1q7 HB.out GE265.out))); have n1_ := Aside0.mk (blk_below (g := gb265) (o := .cells #[.int .i64 a0_0, .int .i64 a0_1, .int .i64 a0_2, .int .i64 a0_3] 34 (0, 0)) (kbq7 BK265.out) hb); have n2_ := Aside0.mk (below_step (lb1q7 HB.out GE265.out) hb); clear BK265; clear HB; have HO269 := n0_; have BK265 := n1_; have HB := n2_; clear n0_ n1_ n2_; clear hb ho9; obtain ⟨Ao10, co10, eo10⟩ := Kd.R_slice HO269.out; subst eo10))
  go_loopg [24] k (fun kq v24 w' => ∃ (x24_1 : Int), v24 = .int .i64 x24_1 ∧ Aside0 (impl_NormalOf.l0 kq y267 (y267.length : Int) x24_1 a0_0 a0_1 a0_2 a0_3 = some (r1, r2)) ∧ Aside0 (kq ≤ k) ∧ Aside0 (Kd.R (Kd.int .i64) 3 w' w.heap.size (fun _ => True) (.slice Ao10 y267.length co10) y267) ∧ Aside0 (w'.heap[gb265]? = some (.cells #[.int .i64 a0_0, .int .i64 a0_1, .int .i64 a0_2, .int .i64 a0_3] 34 (0, 0))) ∧ Aside0 (Below w.heap.size w w'))
  case atStart => exact ⟨(0), (by first | rfl | (simp; done) | (simp [*]; done)), H', ⟨Nat.le_refl _⟩, ⟨krq7 HO269.out⟩, ⟨kbq7 BK265.out⟩, ⟨lb1q7 HB.out GE265.out⟩⟩
  case round =>
   clear H'; (try clear c1); (try clear p2); (try clear c3); (try clear hcz5_0); (try clear hcz5_1); (try clear hcz5_2); (try clear hcz5_3); (try clear hcz7_0); (try clear hcz7_1); (try clear hcz7_2); (try clear hcz7_3); (try clear hfz5_0); (try clear hfz5_1); (try clear hfz5_2); (try clear hfz5_3); (try clear hfz7_0); (try clear hfz7_1); (try clear hfz7_2); (try clear hfz7_3)
   obtain ⟨x24_1, rfl, HA, HK1, HO_22, BK265, HB⟩ := hrel
   cases gk with
   | zero => exact absurd HA.out (by simp [impl_NormalOf.l0])
   | succ k1 =>
    have H := HA.out
    clear HA
    simp only [impl_NormalOf.l0] at H
    by_cases c11 : x24_1 < (y267.length : Int)
    ·
     rw [if_pos c11] at H
     have c11b0 : decide (x24_1 < (y267.length : Int)) = true := decide_eq_true c11
     clear c11
     by_cases c12 : 0 ≤ x24_1
     ·
      rw [if_pos c12] at H
      have c12b0 : decide (0 ≤ x24_1) = true := decide_eq_true c12
      clear c12
      by_cases c13 : x24_1 < (y267.length : Int)
      ·
       rw [if_pos c13] at H
       have c13b0 : decide (x24_1 < (y267.length : Int)) = true := decide_eq_true c13
       clear c13
       by_cases c14 : (rd y267 x24_1) < (-12)
       ·
        rw [if_pos c14] at H
        have c14b0 : decide ((rd y267 x24_1) < (-12)) = true := decide_eq_true c14
        clear c14
        simp only [Option.some.injEq, Prod.mk.injEq] at H
        obtain ⟨rfl, rfl⟩ := H
        have p270 : 0 ≤ (x24_1 : Int) := of_decide_eq_true (by first | (with_reducible assumption) | assumption)
        have q270 : x24_1 < (y267.length : Int) := of_decide_eq_true (by first | (with_reducible assumption) | assumption)
        obtain ⟨ad270, e270, hx270_0⟩ := Kd.at_int (Kd.R_reads' HO_22.out).2.2 x24_1 p270 q270
        cases e270
        replace p270 := eq_true p270
        replace q270 := eq_true q270
        go_wp2
        go_ret2
        exact ⟨by first | rfl | (simp [errW_none, errW_some] <;> rfl) | (simp [*, errW_none, errW_some] <;> rfl), by repeat (first | (with_reducible first | exact HB.out | apply below_alloc | apply pw_below_drewN | apply below_drew1 | refine below_set ?_ GE265.out) | exact HB.out)⟩
       ·
        rw [if_neg c14] at H
        have c14b0 : decide ((rd y267 x24_1) < (-12)) = false := decide_eq_false c14
        clear c14
        by_cases c15 : (rd y267 x24_1) > 12
        ·
         rw [if_pos c15] at H
         have c15b0 : decide (12 < (rd y267 x24_1)) = true := decide_eq_true c15
         clear c15
         simp only [Option.some.injEq, Prod.mk.injEq] at H
         obtain ⟨rfl, rfl⟩ := H
         have p270 : 0 ≤ (x24_1 : Int) := of_decide_eq_true (by first | (with_reducible assumption) | assumption)
         have q270 : x24_1 < (y267.length : Int) := of_decide_eq_true (by first | (with_reducible assumption) | assumption)
         obtain ⟨ad270, e270, hx270_0⟩ := Kd.at_int (Kd.R_reads' HO_22.out).2.2 x24_1 p270 q270
         cases e270
         replace p270 := eq_true p270
         replace q270 := eq_true q270
         go_wp2
         go_ret2
         exact ⟨by first | rfl | (simp [errW_none, errW_some] <;> rfl) | (simp [*, errW_none, errW_some] <;> rfl), by repeat (first | (with_reducible first | exact HB.out | apply below_alloc | apply pw_below_drewN | apply below_drew1 | refine below_set ?_ GE265.out) | exact HB.out)⟩
        ·
         rw [if_neg c15] at H
         have c15b0 : decide (12 < (rd y267 x24_1)) = false := decide_eq_false c15
         clear c15
         have H' := Aside0.mk H
         clear H
         have p270 : 0 ≤ (x24_1 : Int) := of_decide_eq_true (by first | (with_reducible assumption) | assumption)
         have q270 : x24_1 < (y267.length : Int) := of_decide_eq_true (by first | (with_reducible assumption) | assumption)
         obtain ⟨ad270, e270, hx270_0⟩ := Kd.at_int (Kd.R_reads' HO_22.out).2.2 x24_1 p270 q270
         cases e270
         replace p270 := eq_true p270
         replace q270 := eq_true q270
         go_wp2
         go_roundg k1
         case measure => have := HK1.out; omega
         case rel => exact ⟨(wrap64 (x24_1 + 1)), (by first | rfl | (simp; done) | (simp [*]; done)), H', ⟨by have := HK1.out; omega⟩, ⟨krq7 HO_22.out⟩, ⟨kbq7 BK265.out⟩, ⟨lb1q7 HB.out GE265.out⟩⟩
      ·
       rw [if_neg c13] at H
       exact absurd H (by simp)
     ·
      rw [if_neg c12] at H
      exact absurd H (by simp)
    ·
     rw [if_neg c11] at H
     have c11b0 : decide (x24_1 < (y267.length : Int)) = false := decide_eq_false c11
     clear c11
     by_cases c16 : a0_2 = 0
     ·
      rw [if_pos c16] at H
      have c16b0 : (a0_2 == 0) = true := beq_iff_eq.mpr c16
      have c16b1 : (a0_2 != 0) = false := bne_eq_false_iff_eq.mpr c16
      clear c16
      replace H := Option.bind_eq_some_iff.mp H
      obtain ⟨t271, A170, H⟩ := H
      replace H : (some (t271, true)) = some (r1, r2) := H
      have A17 := Aside0.mk A170
      clear A170
      simp only [Option.some.injEq, Prod.mk.injEq] at H
      obtain ⟨rfl, rfl⟩ := H
      have hcz18_0 : wr.cell? ⟨gb265, 0, none⟩ = some (.int .i64 a0_0) := (blk_cell BK265.out 0).trans rfl
      have hcz18_1 : wr.cell? ⟨gb265, 1, none⟩ = some (.int .i64 a0_1) := (blk_cell BK265.out 1).trans rfl
      have hcz18_2 : wr.cell? ⟨gb265, 2, none⟩ = some (.int .i64 a0_2) := (blk_cell BK265.out 2).trans rfl
      have hcz18_3 : wr.cell? ⟨gb265, 3, none⟩ = some (.int .i64 a0_3) := (blk_cell BK265.out 3).trans rfl
      have hfz18_0 := blk_frozen BK265.out 0
      have hfz18_1 := blk_frozen BK265.out 1
      have hfz18_2 := blk_frozen BK265.out 2
      have hfz18_3 := blk_frozen BK265.out 3
      go_wp2_with (first | ((with_reducible refine gate_callee (f := 35) rfl ?_); refine goesL_ (some 40) rfl rfl Tryd.func35 (by kernel_rfl) rfl #[.int .i64 a0_1] rfl (by (try simp only [List.map_toArray, List.map_cons, List.map_nil]); first | done | rfl | (simp only [List.length_drop, List.length_take]; rfl)) ?_; (with_reducible refine (impl_twists.calls a0_1 t271 _ A17.out).mono ?_); rintro e w19 ⟨rfl, hb⟩; refine ⟨_, rfl, ?_⟩; have n0_ := Aside0.mk (Kd.R_below (krq7 HO_22.out) hb); have n1_ := Aside0.mk (blk_below (g := gb265) (o := .cells #[.int .i64 a0_0, .int .i64 a0_1, .int .i64 a0_2, .int .i64 a0_3] 34 (0, 0)) (kbq7 BK265.out) hb); have n2_ := Aside0.mk (below_step (lb1q7 HB.out GE265.out) hb); clear HO_22; clear BK265; clear HB; have HO_22 := n0_; have BK265 := n1_; have HB := n2_; clear n0_ n1_ n2_; (try clear hb); (try clear hb2); (try clear hk); (try clear hi)))
      go_ret2
      exact ⟨by first | rfl | (simp [errW_none, errW_some] <;> rfl) | (simp [*, errW_none, errW_some] <;> rfl), by repeat (first | (with_reducible first | exact HB.out | apply below_alloc | apply pw_below_drewN | apply below_drew1 | refine below_set ?_ GE265.out) | exact HB.out)⟩
     ·
      rw [if_neg c16] at H
      have c16b0 : (a0_2 == 0) = false := beq_eq_false_iff_ne.mpr c16
      have c16b1 : (a0_2 != 0) = true := bne_iff_ne.mpr c16
      replace H := Option.bind_eq_some_iff.mp H
      obtain ⟨t272, A200, H⟩ := H
      replace H : (if 1 + t272.size ≤ 9223372036854775807 then ((impl_mapOf.f k1 ((⟨#[82]⟩ : ByteArray) ++ t272)).bind fun bt273 => (if (wrap64 ((wrap64 (bt273.2.2.2.1 * a0_0)) - (wrap64 (bt273.2.1 * a0_2)))) < 0 then ((impl_twists.f (wrap64 (-(wrap64 ((wrap64 (bt273.2.2.2.1 * a0_1)) - (wrap64 (bt273.2.1 * a0_3))))))).bind fun t279 => (if t279.size + ((⟨#[82]⟩ : ByteArray) ++ t272).size ≤ 9223372036854775807 then (if ((t279 ++ ((⟨#[82]⟩ : ByteArray) ++ t272)).size : Int) > 200 then (some ((⟨#[]⟩ : ByteArray), false)) else (some (t279 ++ ((⟨#[82]⟩ : ByteArray) ++ t272), true))) else (none))) else ((impl_twists.f (wrap64 ((wrap64 (bt273.2.2.2.1 * a0_1)) - (wrap64 (bt273.2.1 * a0_3))))).bind fun t280 => (if t280.size + ((⟨#[82]⟩ : ByteArray) ++ t272).size ≤ 9223372036854775807 then (if ((t280 ++ ((⟨#[82]⟩ : ByteArray) ++ t272)).size : Int) > 200 then (some ((⟨#[]⟩ : ByteArray), false)) else (some (t280 ++ ((⟨#[82]⟩ : ByteArray) ++ t272), true))) else (none))))) else (none)) = some (r1, r2) := H
      have A20 := Aside0.mk A200
      clear A200
      by_cases c21 : 1 + t272.size ≤ 9223372036854775807
      ·
       rw [if_pos c21] at H
       have c21b0 := eq_true c21
       have c21b1 : decide (1 + t272.size ≤ 9223372036854775807) = true := decide_eq_true c21
       try have c21b2 : (9223372036854775807 < 1 + t272.size) = False := eq_false (Nat.not_lt.2 c21)
       replace H := Option.bind_eq_some_iff.mp H
       obtain ⟨⟨t273, t274, t275, t276, t277⟩, A220, H⟩ := H
       replace H : (if (wrap64 ((wrap64 (t276 * a0_0)) - (wrap64 (t274 * a0_2)))) < 0 then ((impl_twists.f (wrap64 (-(wrap64 ((wrap64 (t276 * a0_1)) - (wrap64 (t274 * a0_3))))))).bind fun t279 => (if t279.size + ((⟨#[82]⟩ : ByteArray) ++ t272).size ≤ 9223372036854775807 then (if ((t279 ++ ((⟨#[82]⟩ : ByteArray) ++ t272)).size : Int) > 200 then (some ((⟨#[]⟩ : ByteArray), false)) else (some (t279 ++ ((⟨#[82]⟩ : ByteArray) ++ t272), true))) else (none))) else ((impl_twists.f (wrap64 ((wrap64 (t276 * a0_1)) - (wrap64 (t274 * a0_3))))).bind fun t280 => (if t280.size + ((⟨#[82]⟩ : ByteArray) ++ t272).size ≤ 9223372036854775807 then (if ((t280 ++ ((⟨#[82]⟩ : ByteArray) ++ t272)).size : Int) > 200 then (some ((⟨#[]⟩ : ByteArray), false)) else (some (t280 ++ ((⟨#[82]⟩ : ByteArray) ++ t272), true))) else (none)))) = some (r1, r2) := H
       have A22 := Aside0.mk A220
       clear A220
       by_cases c23 : (wrap64 ((wrap64 (t276 * a0_0)) - (wrap64 (t274 * a0_2)))) < 0
       ·
        rw [if_pos c23] at H
        have c23b0 : decide ((wrap64 ((wrap64 (t276 * a0_0)) - (wrap64 (t274 * a0_2)))) < 0) = true := decide_eq_true c23
        clear c23
        replace H := Option.bind_eq_some_iff.mp H
        obtain ⟨t279, A240, H⟩ := H
        replace H : (if t279.size + ((⟨#[82]⟩ : ByteArray) ++ t272).size ≤ 9223372036854775807 then (if ((t279 ++ ((⟨#[82]⟩ : ByteArray) ++ t272)).size : Int) > 200 then (some ((⟨#[]⟩ : ByteArray), false)) else (some (t279 ++ ((⟨#[82]⟩ : ByteArray) ++ t272), true))) else (none)) = some (r1, r2) := H
        have A24 := Aside0.mk A240
        clear A240
        by_cases c25 : t279.size + ((⟨#[82]⟩ : ByteArray) ++ t272).size ≤ 9223372036854775807
        ·
         rw [if_pos c25] at H
         have c25b0 := eq_true c25
         have c25b1 : decide (t279.size + ((⟨#[82]⟩ : ByteArray) ++ t272).size ≤ 9223372036854775807) = true := decide_eq_true c25
         have c25q : t279.size + (1 + t272.size) ≤ 9223372036854775807 := by have q_ := c25; rw [ByteArray.size_append] at q_; exact q_
         have c25b3 := eq_true c25q
         have c25b4 : decide (t279.size + (1 + t272.size) ≤ 9223372036854775807) = true := decide_eq_true c25q
         have c25b5 : (9223372036854775807 < t279.size + (1 + t272.size)) = False := eq_false (Nat.not_lt.2 c25q)
         clear c25q
         try have c25b2 : (9223372036854775807 < t279.size + ((⟨#[82]⟩ : ByteArray) ++ t272).size) = False := eq_false (Nat.not_lt.2 c25)
         by_cases c26 : ((t279 ++ ((⟨#[82]⟩ : ByteArray) ++ t272)).size : Int) > 200
         ·
          rw [if_pos c26] at H
          have c26b0 : decide (200 < ((t279 ++ ((⟨#[82]⟩ : ByteArray) ++ t272)).size : Int)) = true := decide_eq_true c26
          have c26b1 : decide (200 < (t279 ++ ((⟨#[82]⟩ : ByteArray) ++ t272)).size) = true := decide_eq_true (by omega)
          have c26q : (t279 ++ ((⟨#[82]⟩ : ByteArray) ++ t272)).size = t279.size + (1 + t272.size) := by rw [ByteArray.size_append, ByteArray.size_append]; rfl
          have c26b2 : decide (200 < (t279.size : Int) + (1 + (t272.size : Int))) = true := decide_eq_true (by omega)
          have c26b3 : decide (200 < t279.size + (1 + t272.size)) = true := decide_eq_true (by omega)
          clear c26q
          clear c26
          simp only [Option.some.injEq, Prod.mk.injEq] at H
          obtain ⟨rfl, rfl⟩ := H
          have hcz27_0 : wr.cell? ⟨gb265, 0, none⟩ = some (.int .i64 a0_0) := (blk_cell BK265.out 0).trans rfl
          have hcz27_1 : wr.cell? ⟨gb265, 1, none⟩ = some (.int .i64 a0_1) := (blk_cell BK265.out 1).trans rfl
          have hcz27_2 : wr.cell? ⟨gb265, 2, none⟩ = some (.int .i64 a0_2) := (blk_cell BK265.out 2).trans rfl
          have hcz27_3 : wr.cell? ⟨gb265, 3, none⟩ = some (.int .i64 a0_3) := (blk_cell BK265.out 3).trans rfl
          have hfz27_0 := blk_frozen BK265.out 0
          have hfz27_1 := blk_frozen BK265.out 1
          have hfz27_2 := blk_frozen BK265.out 2
          have hfz27_3 := blk_frozen BK265.out 3
          go_wp2_with (first | ((with_reducible refine gate_callee (f := 36) rfl ?_); refine goesL_ (some 46) rfl rfl Tryd.func36 (by kernel_rfl) rfl #[.agg #[.int .i64 a0_0, .int .i64 a0_2]] rfl (by (try simp only [List.map_toArray, List.map_cons, List.map_nil]); first | done | rfl | (simp only [List.length_drop, List.length_take]; rfl)) ?_; (with_reducible refine (impl_danceFor.calls k1 a0_0 a0_2 t272 _ A20.out).mono ?_); rintro e w28 ⟨rfl, hb⟩; refine ⟨_, rfl, ?_⟩; have n0_ := Aside0.mk (Kd.R_below (krq7 HO_22.out) hb); have n1_ := Aside0.mk (blk_below (g := gb265) (o := .cells #[.int .i64 a0_0, .int .i64 a0_1, .int .i64 a0_2, .int .i64 a0_3] 34 (0, 0)) (kbq7 BK265.out) hb); have n2_ := Aside0.mk (below_step (lb1q7 HB.out GE265.out) hb); clear HO_22; clear BK265; clear HB; have HO_22 := n0_; have BK265 := n1_; have HB := n2_; clear n0_ n1_ n2_; (try clear hb); (try clear hb2); (try clear hk); (try clear hi)) | ((with_reducible refine gate_callee (f := 37) rfl ?_); refine goesL_ (some 50) rfl rfl Tryd.func37 (by kernel_rfl) rfl #[.string ((⟨#[82]⟩ : ByteArray) ++ t272)] rfl (by (try simp only [List.map_toArray, List.map_cons, List.map_nil]); first | done | rfl | (simp only [List.length_drop, List.length_take]; rfl)) ?_; (with_reducible refine (impl_mapOf.calls k1 ((⟨#[82]⟩ : ByteArray) ++ t272) t273 t274 t275 t276 t277 _ A22.out).mono ?_); rintro e w29 ⟨rfl, hb⟩; refine ⟨_, rfl, ?_⟩; have n0_ := Aside0.mk (Kd.R_below (krq7 HO_22.out) hb); have n1_ := Aside0.mk (blk_below (g := gb265) (o := .cells #[.int .i64 a0_0, .int .i64 a0_1, .int .i64 a0_2, .int .i64 a0_3] 34 (0, 0)) (kbq7 BK265.out) hb); have n2_ := Aside0.mk (below_step (lb1q7 HB.out GE265.out) hb); clear HO_22; clear BK265; clear HB; have HO_22 := n0_; have BK265 := n1_; have HB := n2_; clear n0_ n1_ n2_; (try clear hb); (try clear hb2); (try clear hk); (try clear hi)) | ((with_reducible refine gate_dst (N := 7) rfl ?_); refine box_event ?hg (N := 7) ?hd (cs := #[.int .i64 0, .int .i64 0, .int .i64 0, .int .i64 0]) (t := 34) ?hr ?_; (case hd => rfl); (case hg => rfl); (case hr => first | (go_simp; done) | (go_simp; rfl)); intro gb278 hg w30 hbox hb; have n0_ := Aside0.mk (Kd.R_below (krq7 HO_22.out) hb); have n1_ := Aside0.mk (blk_below (g := gb265) (o := .cells #[.int .i64 a0_0, .int .i64 a0_1, .int .i64 a0_2, .int .i64 a0_3] 34 (0, 0)) (kbq7 BK265.out) hb); have n2_ := Aside0.mk (below_step (lb1q7 HB.out GE265.out) hb); have n3_ := Aside0.mk (hbox); have n4_ := Aside0.mk ((by rw [hg]; exact (below_size (lb1q7 HB.out GE265.out)) : w.heap.size ≤ gb278)); have n5_ := Aside0.mk ((by rw [hg]; exact (below_size (lb1q7 HB.out GE265.out)) : w.heap.size ≤ gb278)); have n6_ := Aside0.mk ((by rw [hg]; exact Nat.ne_of_lt (blk_lt (g := gb265) (o := .cells #[.int .i64 a0_0, .int .i64 a0_1, .int .i64 a0_2, .int .i64 a0_3] 34 (0, 0)) (kbq7 BK265.out)) : gb265 ≠ gb278)); have n7_ := Aside0.mk ((by rw [hg]; exact Nat.ne_of_gt (blk_lt (g := gb265) (o := .cells #[.int .i64 a0_0, .int .i64 a0_1, .int .i64 a0_2, .int .i64 a0_3] 34 (0, 0)) (kbq7 BK265.out)) : gb278 ≠ gb265)); clear HO_22; clear BK265; clear HB; have HO_22 := n0_; have BK265 := n1_; have HB := n2_; have BK278 := n3_; have GW278 := n4_; have GE278 := n5_; have NB265_278 := n6_; have NB278_265 := n7_; clear n0_ n1_ n2_ n3_ n4_ n5_ n6_ n7_; clear hb hbox hg; have hnb31 := NB278_265.out; have hnc31 := NB265_278.out; have hcz32_0 : w30.cell? ⟨gb278, 0, none⟩ = some (.int .i64 0) := (blk_cell BK278.out 0).trans rfl; have hcz32_1 : w30.cell? ⟨gb278, 1, none⟩ = some (.int .i64 0) := (blk_cell BK278.out 1).trans rfl; have hcz32_2 : w30.cell? ⟨gb278, 2, none⟩ = some (.int .i64 0) := (blk_cell BK278.out 2).trans rfl; have hcz32_3 : w30.cell? ⟨gb278, 3, none⟩ = some (.int .i64 0) := (blk_cell BK278.out 3).trans rfl; have hfz32_0 := blk_frozen BK278.out 0; have hfz32_1 := blk_frozen BK278.out 1; have hfz32_2 := blk_frozen BK278.out 2; have hfz32_3 := blk_frozen BK278.out 3; have hcz33_0 : w30.cell? ⟨gb265, 0, none⟩ = some (.int .i64 a0_0) := (blk_cell BK265.out 0).trans rfl; have hcz33_1 : w30.cell? ⟨gb265, 1, none⟩ = some (.int .i64 a0_1) := (blk_cell BK265.out 1).trans rfl; have hcz33_2 : w30.cell? ⟨gb265, 2, none⟩ = some (.int .i64 a0_2) := (blk_cell BK265.out 2).trans rfl; have hcz33_3 : w30.cell? ⟨gb265, 3, none⟩ = some (.int .i64 a0_3) := (blk_cell BK265.out 3).trans rfl; have hfz33_0 := blk_frozen BK265.out 0; have hfz33_1 := blk_frozen BK265.out 1; have hfz33_2 := blk_frozen BK265.out 2; have hfz33_3 := blk_frozen BK265.out 3) | ((with_reducible refine gate_callee (f := 35) rfl ?_); refine goesL_ (some 79) rfl rfl Tryd.func35 (by kernel_rfl) rfl #[.int .i64 (wrap64 (-(wrap64 ((wrap64 (t276 * a0_1)) - (wrap64 (t274 * a0_3))))))] rfl (by (try simp only [List.map_toArray, List.map_cons, List.map_nil]); first | done | rfl | (simp only [List.length_drop, List.length_take]; rfl)) ?_; (with_reducible refine (impl_twists.calls (wrap64 (-(wrap64 ((wrap64 (t276 * a0_1)) - (wrap64 (t274 * a0_3)))))) t279 _ A24.out).mono ?_); rintro e w34 ⟨rfl, hb⟩; refine ⟨_, rfl, ?_⟩; have n0_ := Aside0.mk (Kd.R_below (by (with_reducible repeat (first | apply Kd.R_alloc | apply Kd.R_drewN | apply Kd.R_drew)); exact (Kd.R_mono (Kd.R_far (p := ⟨gb278, 3, none⟩) (Kd.R_far (p := ⟨gb278, 2, none⟩) (Kd.R_far (p := ⟨gb278, 1, none⟩) (Kd.R_far (p := ⟨gb278, 0, none⟩) (Kd.R_types HO_22.out BK278.out (by decide)) (fun _ hk => hk.2) (.int .i64 t273)) (fun _ hk => hk.2) (.int .i64 t274)) (fun _ hk => hk.2) (.int .i64 t275)) (fun _ hk => hk.2) (.int .i64 t276)) (fun _ h_ => h_.1))) hb); have n1_ := Aside0.mk (blk_below (g := gb265) (o := .cells #[.int .i64 a0_0, .int .i64 a0_1, .int .i64 a0_2, .int .i64 a0_3] 34 (0, 0)) (kf1q7 BK265.out NB265_278.out) hb); have n2_ := Aside0.mk (blk_below (g := gb278) (o := .cells #[.int .i64 t273, .int .i64 t274, .int .i64 t275, .int .i64 t276] 34 (0, 0)) (by (with_reducible repeat (first | refine blk_drewN ?_ _ | refine blk_drew ?_ | refine blk_alloc ?_ _)); refine blk_put (cs := #[.int .i64 t273, .int .i64 t274, .int .i64 t275, .int .i64 0]) ?_ 3 _ rfl; (with_reducible repeat (first | refine blk_drewN ?_ _ | refine blk_drew ?_ | refine blk_alloc ?_ _)); refine blk_put (cs := #[.int .i64 t273, .int .i64 t274, .int .i64 0, .int .i64 0]) ?_ 2 _ rfl; (with_reducible repeat (first | refine blk_drewN ?_ _ | refine blk_drew ?_ | refine blk_alloc ?_ _)); refine blk_put (cs := #[.int .i64 t273, .int .i64 0, .int .i64 0, .int .i64 0]) ?_ 1 _ rfl; (with_reducible repeat (first | refine blk_drewN ?_ _ | refine blk_drew ?_ | refine blk_alloc ?_ _)); refine blk_put (cs := #[.int .i64 0, .int .i64 0, .int .i64 0, .int .i64 0]) ?_ 0 _ rfl; (with_reducible repeat (first | refine blk_drewN ?_ _ | refine blk_drew ?_ | refine blk_alloc ?_ _)); exact BK278.out) hb); have n3_ := Aside0.mk (below_step (lb2q7 HB.out GE265.out GE278.out) hb); clear HO_22; clear BK265; clear BK278; clear HB; have HO_22 := n0_; have BK265 := n1_; have BK278 := n2_; have HB := n3_; clear n0_ n1_ n2_ n3_; (try clear hb); (try clear hb2); (try clear hk); (try clear hi)))
          go_ret2
          exact ⟨by first | rfl | (simp [errW_none, errW_some] <;> rfl) | (simp [*, errW_none, errW_some] <;> rfl), by repeat (first | (with_reducible first | exact HB.out | apply below_alloc | apply pw_below_drewN | apply below_drew1 | refine below_set ?_ GE265.out | refine below_set ?_ GE278.out) | exact HB.out)⟩
         ·
          rw [if_neg c26] at H
          have c26b0 : decide (200 < ((t279 ++ ((⟨#[82]⟩ : ByteArray) ++ t272)).size : Int)) = false := decide_eq_false c26
          have c26b1 : decide (200 < (t279 ++ ((⟨#[82]⟩ : ByteArray) ++ t272)).size) = false := decide_eq_false (by omega)
          have c26q : (t279 ++ ((⟨#[82]⟩ : ByteArray) ++ t272)).size = t279.size + (1 + t272.size) := by rw [ByteArray.size_append, ByteArray.size_append]; rfl
          have c26b2 : decide (200 < (t279.size : Int) + (1 + (t272.size : Int))) = false := decide_eq_false (by omega)
          have c26b3 : decide (200 < t279.size + (1 + t272.size)) = false := decide_eq_false (by omega)
          clear c26q
          clear c26
          simp only [Option.some.injEq, Prod.mk.injEq] at H
          obtain ⟨rfl, rfl⟩ := H
          have hcz35_0 : wr.cell? ⟨gb265, 0, none⟩ = some (.int .i64 a0_0) := (blk_cell BK265.out 0).trans rfl
          have hcz35_1 : wr.cell? ⟨gb265, 1, none⟩ = some (.int .i64 a0_1) := (blk_cell BK265.out 1).trans rfl
          have hcz35_2 : wr.cell? ⟨gb265, 2, none⟩ = some (.int .i64 a0_2) := (blk_cell BK265.out 2).trans rfl
          have hcz35_3 : wr.cell? ⟨gb265, 3, none⟩ = some (.int .i64 a0_3) := (blk_cell BK265.out 3).trans rfl
          have hfz35_0 := blk_frozen BK265.out 0
          have hfz35_1 := blk_frozen BK265.out 1
          have hfz35_2 := blk_frozen BK265.out 2
          have hfz35_3 := blk_frozen BK265.out 3
          go_wp2_with (first | ((with_reducible refine gate_callee (f := 36) rfl ?_); refine goesL_ (some 46) rfl rfl Tryd.func36 (by kernel_rfl) rfl #[.agg #[.int .i64 a0_0, .int .i64 a0_2]] rfl (by (try simp only [List.map_toArray, List.map_cons, List.map_nil]); first | done | rfl | (simp only [List.length_drop, List.length_take]; rfl)) ?_; (with_reducible refine (impl_danceFor.calls k1 a0_0 a0_2 t272 _ A20.out).mono ?_); rintro e w36 ⟨rfl, hb⟩; refine ⟨_, rfl, ?_⟩; have n0_ := Aside0.mk (Kd.R_below (krq7 HO_22.out) hb); have n1_ := Aside0.mk (blk_below (g := gb265) (o := .cells #[.int .i64 a0_0, .int .i64 a0_1, .int .i64 a0_2, .int .i64 a0_3] 34 (0, 0)) (kbq7 BK265.out) hb); have n2_ := Aside0.mk (below_step (lb1q7 HB.out GE265.out) hb); clear HO_22; clear BK265; clear HB; have HO_22 := n0_; have BK265 := n1_; have HB := n2_; clear n0_ n1_ n2_; (try clear hb); (try clear hb2); (try clear hk); (try clear hi)) | ((with_reducible refine gate_callee (f := 37) rfl ?_); refine goesL_ (some 50) rfl rfl Tryd.func37 (by kernel_rfl) rfl #[.string ((⟨#[82]⟩ : ByteArray) ++ t272)] rfl (by (try simp only [List.map_toArray, List.map_cons, List.map_nil]); first | done | rfl | (simp only [List.length_drop, List.length_take]; rfl)) ?_; (with_reducible refine (impl_mapOf.calls k1 ((⟨#[82]⟩ : ByteArray) ++ t272) t273 t274 t275 t276 t277 _ A22.out).mono ?_); rintro e w37 ⟨rfl, hb⟩; refine ⟨_, rfl, ?_⟩; have n0_ := Aside0.mk (Kd.R_below (krq7 HO_22.out) hb); have n1_ := Aside0.mk (blk_below (g := gb265) (o := .cells #[.int .i64 a0_0, .int .i64 a0_1, .int .i64 a0_2, .int .i64 a0_3] 34 (0, 0)) (kbq7 BK265.out) hb); have n2_ := Aside0.mk (below_step (lb1q7 HB.out GE265.out) hb); clear HO_22; clear BK265; clear HB; have HO_22 := n0_; have BK265 := n1_; have HB := n2_; clear n0_ n1_ n2_; (try clear hb); (try clear hb2); (try clear hk); (try clear hi)) | ((with_reducible refine gate_dst (N := 7) rfl ?_); refine box_event ?hg (N := 7) ?hd (cs := #[.int .i64 0, .int .i64 0, .int .i64 0, .int .i64 0]) (t := 34) ?hr ?_; (case hd => rfl); (case hg => rfl); (case hr => first | (go_simp; done) | (go_simp; rfl)); intro gb278 hg w38 hbox hb; have n0_ := Aside0.mk (Kd.R_below (krq7 HO_22.out) hb); have n1_ := Aside0.mk (blk_below (g := gb265) (o := .cells #[.int .i64 a0_0, .int .i64 a0_1, .int .i64 a0_2, .int .i64 a0_3] 34 (0, 0)) (kbq7 BK265.out) hb); have n2_ := Aside0.mk (below_step (lb1q7 HB.out GE265.out) hb); have n3_ := Aside0.mk (hbox); have n4_ := Aside0.mk ((by rw [hg]; exact (below_size (lb1q7 HB.out GE265.out)) : w.heap.size ≤ gb278)); have n5_ := Aside0.mk ((by rw [hg]; exact (below_size (lb1q7 HB.out GE265.out)) : w.heap.size ≤ gb278)); have n6_ := Aside0.mk ((by rw [hg]; exact Nat.ne_of_lt (blk_lt (g := gb265) (o := .cells #[.int .i64 a0_0, .int .i64 a0_1, .int .i64 a0_2, .int .i64 a0_3] 34 (0, 0)) (kbq7 BK265.out)) : gb265 ≠ gb278)); have n7_ := Aside0.mk ((by rw [hg]; exact Nat.ne_of_gt (blk_lt (g := gb265) (o := .cells #[.int .i64 a0_0, .int .i64 a0_1, .int .i64 a0_2, .int .i64 a0_3] 34 (0, 0)) (kbq7 BK265.out)) : gb278 ≠ gb265)); clear HO_22; clear BK265; clear HB; have HO_22 := n0_; have BK265 := n1_; have HB := n2_; have BK278 := n3_; have GW278 := n4_; have GE278 := n5_; have NB265_278 := n6_; have NB278_265 := n7_; clear n0_ n1_ n2_ n3_ n4_ n5_ n6_ n7_; clear hb hbox hg; have hnb39 := NB278_265.out; have hnc39 := NB265_278.out; have hcz40_0 : w38.cell? ⟨gb278, 0, none⟩ = some (.int .i64 0) := (blk_cell BK278.out 0).trans rfl; have hcz40_1 : w38.cell? ⟨gb278, 1, none⟩ = some (.int .i64 0) := (blk_cell BK278.out 1).trans rfl; have hcz40_2 : w38.cell? ⟨gb278, 2, none⟩ = some (.int .i64 0) := (blk_cell BK278.out 2).trans rfl; have hcz40_3 : w38.cell? ⟨gb278, 3, none⟩ = some (.int .i64 0) := (blk_cell BK278.out 3).trans rfl; have hfz40_0 := blk_frozen BK278.out 0; have hfz40_1 := blk_frozen BK278.out 1; have hfz40_2 := blk_frozen BK278.out 2; have hfz40_3 := blk_frozen BK278.out 3; have hcz41_0 : w38.cell? ⟨gb265, 0, none⟩ = some (.int .i64 a0_0) := (blk_cell BK265.out 0).trans rfl; have hcz41_1 : w38.cell? ⟨gb265, 1, none⟩ = some (.int .i64 a0_1) := (blk_cell BK265.out 1).trans rfl; have hcz41_2 : w38.cell? ⟨gb265, 2, none⟩ = some (.int .i64 a0_2) := (blk_cell BK265.out 2).trans rfl; have hcz41_3 : w38.cell? ⟨gb265, 3, none⟩ = some (.int .i64 a0_3) := (blk_cell BK265.out 3).trans rfl; have hfz41_0 := blk_frozen BK265.out 0; have hfz41_1 := blk_frozen BK265.out 1; have hfz41_2 := blk_frozen BK265.out 2; have hfz41_3 := blk_frozen BK265.out 3) | ((with_reducible refine gate_callee (f := 35) rfl ?_); refine goesL_ (some 79) rfl rfl Tryd.func35 (by kernel_rfl) rfl #[.int .i64 (wrap64 (-(wrap64 ((wrap64 (t276 * a0_1)) - (wrap64 (t274 * a0_3))))))] rfl (by (try simp only [List.map_toArray, List.map_cons, List.map_nil]); first | done | rfl | (simp only [List.length_drop, List.length_take]; rfl)) ?_; (with_reducible refine (impl_twists.calls (wrap64 (-(wrap64 ((wrap64 (t276 * a0_1)) - (wrap64 (t274 * a0_3)))))) t279 _ A24.out).mono ?_); rintro e w42 ⟨rfl, hb⟩; refine ⟨_, rfl, ?_⟩; have n0_ := Aside0.mk (Kd.R_below (by (with_reducible repeat (first | apply Kd.R_alloc | apply Kd.R_drewN | apply Kd.R_drew)); exact (Kd.R_mono (Kd.R_far (p := ⟨gb278, 3, none⟩) (Kd.R_far (p := ⟨gb278, 2, none⟩) (Kd.R_far (p := ⟨gb278, 1, none⟩) (Kd.R_far (p := ⟨gb278, 0, none⟩) (Kd.R_types HO_22.out BK278.out (by decide)) (fun _ hk => hk.2) (.int .i64 t273)) (fun _ hk => hk.2) (.int .i64 t274)) (fun _ hk => hk.2) (.int .i64 t275)) (fun _ hk => hk.2) (.int .i64 t276)) (fun _ h_ => h_.1))) hb); have n1_ := Aside0.mk (blk_below (g := gb265) (o := .cells #[.int .i64 a0_0, .int .i64 a0_1, .int .i64 a0_2, .int .i64 a0_3] 34 (0, 0)) (kf1q7 BK265.out NB265_278.out) hb); have n2_ := Aside0.mk (blk_below (g := gb278) (o := .cells #[.int .i64 t273, .int .i64 t274, .int .i64 t275, .int .i64 t276] 34 (0, 0)) (by (with_reducible repeat (first | refine blk_drewN ?_ _ | refine blk_drew ?_ | refine blk_alloc ?_ _)); refine blk_put (cs := #[.int .i64 t273, .int .i64 t274, .int .i64 t275, .int .i64 0]) ?_ 3 _ rfl; (with_reducible repeat (first | refine blk_drewN ?_ _ | refine blk_drew ?_ | refine blk_alloc ?_ _)); refine blk_put (cs := #[.int .i64 t273, .int .i64 t274, .int .i64 0, .int .i64 0]) ?_ 2 _ rfl; (with_reducible repeat (first | refine blk_drewN ?_ _ | refine blk_drew ?_ | refine blk_alloc ?_ _)); refine blk_put (cs := #[.int .i64 t273, .int .i64 0, .int .i64 0, .int .i64 0]) ?_ 1 _ rfl; (with_reducible repeat (first | refine blk_drewN ?_ _ | refine blk_drew ?_ | refine blk_alloc ?_ _)); refine blk_put (cs := #[.int .i64 0, .int .i64 0, .int .i64 0, .int .i64 0]) ?_ 0 _ rfl; (with_reducible repeat (first | refine blk_drewN ?_ _ | refine blk_drew ?_ | refine blk_alloc ?_ _)); exact BK278.out) hb); have n3_ := Aside0.mk (below_step (lb2q7 HB.out GE265.out GE278.out) hb); clear HO_22; clear BK265; clear BK278; clear HB; have HO_22 := n0_; have BK265 := n1_; have BK278 := n2_; have HB := n3_; clear n0_ n1_ n2_ n3_; (try clear hb); (try clear hb2); (try clear hk); (try clear hi)))
          go_ret2
          exact ⟨by first | rfl | (simp [errW_none, errW_some] <;> rfl) | (simp [*, errW_none, errW_some] <;> rfl), by repeat (first | (with_reducible first | exact HB.out | apply below_alloc | apply pw_below_drewN | apply below_drew1 | refine below_set ?_ GE265.out | refine below_set ?_ GE278.out) | exact HB.out)⟩
        ·
         rw [if_neg c25] at H
         exact absurd H (by simp)
       ·
        rw [if_neg c23] at H
        have c23b0 : decide ((wrap64 ((wrap64 (t276 * a0_0)) - (wrap64 (t274 * a0_2)))) < 0) = false := decide_eq_false c23
        clear c23
        replace H := Option.bind_eq_some_iff.mp H
        obtain ⟨t280, A430, H⟩ := H
        replace H : (if t280.size + ((⟨#[82]⟩ : ByteArray) ++ t272).size ≤ 9223372036854775807 then (if ((t280 ++ ((⟨#[82]⟩ : ByteArray) ++ t272)).size : Int) > 200 then (some ((⟨#[]⟩ : ByteArray), false)) else (some (t280 ++ ((⟨#[82]⟩ : ByteArray) ++ t272), true))) else (none)) = some (r1, r2) := H
        have A43 := Aside0.mk A430
        clear A430
        by_cases c44 : t280.size + ((⟨#[82]⟩ : ByteArray) ++ t272).size ≤ 9223372036854775807
        ·
         rw [if_pos c44] at H
         have c44b0 := eq_true c44
         have c44b1 : decide (t280.size + ((⟨#[82]⟩ : ByteArray) ++ t272).size ≤ 9223372036854775807) = true := decide_eq_true c44
         have c44q : t280.size + (1 + t272.size) ≤ 9223372036854775807 := by have q_ := c44; rw [ByteArray.size_append] at q_; exact q_
         have c44b3 := eq_true c44q
         have c44b4 : decide (t280.size + (1 + t272.size) ≤ 9223372036854775807) = true := decide_eq_true c44q
         have c44b5 : (9223372036854775807 < t280.size + (1 + t272.size)) = False := eq_false (Nat.not_lt.2 c44q)
         clear c44q
         try have c44b2 : (9223372036854775807 < t280.size + ((⟨#[82]⟩ : ByteArray) ++ t272).size) = False := eq_false (Nat.not_lt.2 c44)
         by_cases c45 : ((t280 ++ ((⟨#[82]⟩ : ByteArray) ++ t272)).size : Int) > 200
         ·
          rw [if_pos c45] at H
          have c45b0 : decide (200 < ((t280 ++ ((⟨#[82]⟩ : ByteArray) ++ t272)).size : Int)) = true := decide_eq_true c45
          have c45b1 : decide (200 < (t280 ++ ((⟨#[82]⟩ : ByteArray) ++ t272)).size) = true := decide_eq_true (by omega)
          have c45q : (t280 ++ ((⟨#[82]⟩ : ByteArray) ++ t272)).size = t280.size + (1 + t272.size) := by rw [ByteArray.size_append, ByteArray.size_append]; rfl
          have c45b2 : decide (200 < (t280.size : Int) + (1 + (t272.size : Int))) = true := decide_eq_true (by omega)
          have c45b3 : decide (200 < t280.size + (1 + t272.size)) = true := decide_eq_true (by omega)
          clear c45q
          clear c45
          simp only [Option.some.injEq, Prod.mk.injEq] at H
          obtain ⟨rfl, rfl⟩ := H
          have hcz46_0 : wr.cell? ⟨gb265, 0, none⟩ = some (.int .i64 a0_0) := (blk_cell BK265.out 0).trans rfl
          have hcz46_1 : wr.cell? ⟨gb265, 1, none⟩ = some (.int .i64 a0_1) := (blk_cell BK265.out 1).trans rfl
          have hcz46_2 : wr.cell? ⟨gb265, 2, none⟩ = some (.int .i64 a0_2) := (blk_cell BK265.out 2).trans rfl
          have hcz46_3 : wr.cell? ⟨gb265, 3, none⟩ = some (.int .i64 a0_3) := (blk_cell BK265.out 3).trans rfl
          have hfz46_0 := blk_frozen BK265.out 0
          have hfz46_1 := blk_frozen BK265.out 1
          have hfz46_2 := blk_frozen BK265.out 2
          have hfz46_3 := blk_frozen BK265.out 3
          go_wp2_with (first | ((with_reducible refine gate_callee (f := 36) rfl ?_); refine goesL_ (some 46) rfl rfl Tryd.func36 (by kernel_rfl) rfl #[.agg #[.int .i64 a0_0, .int .i64 a0_2]] rfl (by (try simp only [List.map_toArray, List.map_cons, List.map_nil]); first | done | rfl | (simp only [List.length_drop, List.length_take]; rfl)) ?_; (with_reducible refine (impl_danceFor.calls k1 a0_0 a0_2 t272 _ A20.out).mono ?_); rintro e w47 ⟨rfl, hb⟩; refine ⟨_, rfl, ?_⟩; have n0_ := Aside0.mk (Kd.R_below (krq7 HO_22.out) hb); have n1_ := Aside0.mk (blk_below (g := gb265) (o := .cells #[.int .i64 a0_0, .int .i64 a0_1, .int .i64 a0_2, .int .i64 a0_3] 34 (0, 0)) (kbq7 BK265.out) hb); have n2_ := Aside0.mk (below_step (lb1q7 HB.out GE265.out) hb); clear HO_22; clear BK265; clear HB; have HO_22 := n0_; have BK265 := n1_; have HB := n2_; clear n0_ n1_ n2_; (try clear hb); (try clear hb2); (try clear hk); (try clear hi)) | ((with_reducible refine gate_callee (f := 37) rfl ?_); refine goesL_ (some 50) rfl rfl Tryd.func37 (by kernel_rfl) rfl #[.string ((⟨#[82]⟩ : ByteArray) ++ t272)] rfl (by (try simp only [List.map_toArray, List.map_cons, List.map_nil]); first | done | rfl | (simp only [List.length_drop, List.length_take]; rfl)) ?_; (with_reducible refine (impl_mapOf.calls k1 ((⟨#[82]⟩ : ByteArray) ++ t272) t273 t274 t275 t276 t277 _ A22.out).mono ?_); rintro e w48 ⟨rfl, hb⟩; refine ⟨_, rfl, ?_⟩; have n0_ := Aside0.mk (Kd.R_below (krq7 HO_22.out) hb); have n1_ := Aside0.mk (blk_below (g := gb265) (o := .cells #[.int .i64 a0_0, .int .i64 a0_1, .int .i64 a0_2, .int .i64 a0_3] 34 (0, 0)) (kbq7 BK265.out) hb); have n2_ := Aside0.mk (below_step (lb1q7 HB.out GE265.out) hb); clear HO_22; clear BK265; clear HB; have HO_22 := n0_; have BK265 := n1_; have HB := n2_; clear n0_ n1_ n2_; (try clear hb); (try clear hb2); (try clear hk); (try clear hi)) | ((with_reducible refine gate_dst (N := 7) rfl ?_); refine box_event ?hg (N := 7) ?hd (cs := #[.int .i64 0, .int .i64 0, .int .i64 0, .int .i64 0]) (t := 34) ?hr ?_; (case hd => rfl); (case hg => rfl); (case hr => first | (go_simp; done) | (go_simp; rfl)); intro gb278 hg w49 hbox hb; have n0_ := Aside0.mk (Kd.R_below (krq7 HO_22.out) hb); have n1_ := Aside0.mk (blk_below (g := gb265) (o := .cells #[.int .i64 a0_0, .int .i64 a0_1, .int .i64 a0_2, .int .i64 a0_3] 34 (0, 0)) (kbq7 BK265.out) hb); have n2_ := Aside0.mk (below_step (lb1q7 HB.out GE265.out) hb); have n3_ := Aside0.mk (hbox); have n4_ := Aside0.mk ((by rw [hg]; exact (below_size (lb1q7 HB.out GE265.out)) : w.heap.size ≤ gb278)); have n5_ := Aside0.mk ((by rw [hg]; exact (below_size (lb1q7 HB.out GE265.out)) : w.heap.size ≤ gb278)); have n6_ := Aside0.mk ((by rw [hg]; exact Nat.ne_of_lt (blk_lt (g := gb265) (o := .cells #[.int .i64 a0_0, .int .i64 a0_1, .int .i64 a0_2, .int .i64 a0_3] 34 (0, 0)) (kbq7 BK265.out)) : gb265 ≠ gb278)); have n7_ := Aside0.mk ((by rw [hg]; exact Nat.ne_of_gt (blk_lt (g := gb265) (o := .cells #[.int .i64 a0_0, .int .i64 a0_1, .int .i64 a0_2, .int .i64 a0_3] 34 (0, 0)) (kbq7 BK265.out)) : gb278 ≠ gb265)); clear HO_22; clear BK265; clear HB; have HO_22 := n0_; have BK265 := n1_; have HB := n2_; have BK278 := n3_; have GW278 := n4_; have GE278 := n5_; have NB265_278 := n6_; have NB278_265 := n7_; clear n0_ n1_ n2_ n3_ n4_ n5_ n6_ n7_; clear hb hbox hg; have hnb50 := NB278_265.out; have hnc50 := NB265_278.out; have hcz51_0 : w49.cell? ⟨gb278, 0, none⟩ = some (.int .i64 0) := (blk_cell BK278.out 0).trans rfl; have hcz51_1 : w49.cell? ⟨gb278, 1, none⟩ = some (.int .i64 0) := (blk_cell BK278.out 1).trans rfl; have hcz51_2 : w49.cell? ⟨gb278, 2, none⟩ = some (.int .i64 0) := (blk_cell BK278.out 2).trans rfl; have hcz51_3 : w49.cell? ⟨gb278, 3, none⟩ = some (.int .i64 0) := (blk_cell BK278.out 3).trans rfl; have hfz51_0 := blk_frozen BK278.out 0; have hfz51_1 := blk_frozen BK278.out 1; have hfz51_2 := blk_frozen BK278.out 2; have hfz51_3 := blk_frozen BK278.out 3; have hcz52_0 : w49.cell? ⟨gb265, 0, none⟩ = some (.int .i64 a0_0) := (blk_cell BK265.out 0).trans rfl; have hcz52_1 : w49.cell? ⟨gb265, 1, none⟩ = some (.int .i64 a0_1) := (blk_cell BK265.out 1).trans rfl; have hcz52_2 : w49.cell? ⟨gb265, 2, none⟩ = some (.int .i64 a0_2) := (blk_cell BK265.out 2).trans rfl; have hcz52_3 : w49.cell? ⟨gb265, 3, none⟩ = some (.int .i64 a0_3) := (blk_cell BK265.out 3).trans rfl; have hfz52_0 := blk_frozen BK265.out 0; have hfz52_1 := blk_frozen BK265.out 1; have hfz52_2 := blk_frozen BK265.out 2; have hfz52_3 := blk_frozen BK265.out 3) | ((with_reducible refine gate_callee (f := 35) rfl ?_); refine goesL_ (some 79) rfl rfl Tryd.func35 (by kernel_rfl) rfl #[.int .i64 (wrap64 ((wrap64 (t276 * a0_1)) - (wrap64 (t274 * a0_3))))] rfl (by (try simp only [List.map_toArray, List.map_cons, List.map_nil]); first | done | rfl | (simp only [List.length_drop, List.length_take]; rfl)) ?_; (with_reducible refine (impl_twists.calls (wrap64 ((wrap64 (t276 * a0_1)) - (wrap64 (t274 * a0_3)))) t280 _ A43.out).mono ?_); rintro e w53 ⟨rfl, hb⟩; refine ⟨_, rfl, ?_⟩; have n0_ := Aside0.mk (Kd.R_below (by (with_reducible repeat (first | apply Kd.R_alloc | apply Kd.R_drewN | apply Kd.R_drew)); exact (Kd.R_mono (Kd.R_far (p := ⟨gb278, 3, none⟩) (Kd.R_far (p := ⟨gb278, 2, none⟩) (Kd.R_far (p := ⟨gb278, 1, none⟩) (Kd.R_far (p := ⟨gb278, 0, none⟩) (Kd.R_types HO_22.out BK278.out (by decide)) (fun _ hk => hk.2) (.int .i64 t273)) (fun _ hk => hk.2) (.int .i64 t274)) (fun _ hk => hk.2) (.int .i64 t275)) (fun _ hk => hk.2) (.int .i64 t276)) (fun _ h_ => h_.1))) hb); have n1_ := Aside0.mk (blk_below (g := gb265) (o := .cells #[.int .i64 a0_0, .int .i64 a0_1, .int .i64 a0_2, .int .i64 a0_3] 34 (0, 0)) (kf1q7 BK265.out NB265_278.out) hb); have n2_ := Aside0.mk (blk_below (g := gb278) (o := .cells #[.int .i64 t273, .int .i64 t274, .int .i64 t275, .int .i64 t276] 34 (0, 0)) (by (with_reducible repeat (first | refine blk_drewN ?_ _ | refine blk_drew ?_ | refine blk_alloc ?_ _)); refine blk_put (cs := #[.int .i64 t273, .int .i64 t274, .int .i64 t275, .int .i64 0]) ?_ 3 _ rfl; (with_reducible repeat (first | refine blk_drewN ?_ _ | refine blk_drew ?_ | refine blk_alloc ?_ _)); refine blk_put (cs := #[.int .i64 t273, .int .i64 t274, .int .i64 0, .int .i64 0]) ?_ 2 _ rfl; (with_reducible repeat (first | refine blk_drewN ?_ _ | refine blk_drew ?_ | refine blk_alloc ?_ _)); refine blk_put (cs := #[.int .i64 t273, .int .i64 0, .int .i64 0, .int .i64 0]) ?_ 1 _ rfl; (with_reducible repeat (first | refine blk_drewN ?_ _ | refine blk_drew ?_ | refine blk_alloc ?_ _)); refine blk_put (cs := #[.int .i64 0, .int .i64 0, .int .i64 0, .int .i64 0]) ?_ 0 _ rfl; (with_reducible repeat (first | refine blk_drewN ?_ _ | refine blk_drew ?_ | refine blk_alloc ?_ _)); exact BK278.out) hb); have n3_ := Aside0.mk (below_step (lb2q7 HB.out GE265.out GE278.out) hb); clear HO_22; clear BK265; clear BK278; clear HB; have HO_22 := n0_; have BK265 := n1_; have BK278 := n2_; have HB := n3_; clear n0_ n1_ n2_ n3_; (try clear hb); (try clear hb2); (try clear hk); (try clear hi)))
          go_ret2
          exact ⟨by first | rfl | (simp [errW_none, errW_some] <;> rfl) | (simp [*, errW_none, errW_some] <;> rfl), by repeat (first | (with_reducible first | exact HB.out | apply below_alloc | apply pw_below_drewN | apply below_drew1 | refine below_set ?_ GE265.out | refine below_set ?_ GE278.out) | exact HB.out)⟩
         ·
          rw [if_neg c45] at H
          have c45b0 : decide (200 < ((t280 ++ ((⟨#[82]⟩ : ByteArray) ++ t272)).size : Int)) = false := decide_eq_false c45
          have c45b1 : decide (200 < (t280 ++ ((⟨#[82]⟩ : ByteArray) ++ t272)).size) = false := decide_eq_false (by omega)
          have c45q : (t280 ++ ((⟨#[82]⟩ : ByteArray) ++ t272)).size = t280.size + (1 + t272.size) := by rw [ByteArray.size_append, ByteArray.size_append]; rfl
          have c45b2 : decide (200 < (t280.size : Int) + (1 + (t272.size : Int))) = false := decide_eq_false (by omega)
          have c45b3 : decide (200 < t280.size + (1 + t272.size)) = false := decide_eq_false (by omega)
          clear c45q
          clear c45
          simp only [Option.some.injEq, Prod.mk.injEq] at H
          obtain ⟨rfl, rfl⟩ := H
          have hcz54_0 : wr.cell? ⟨gb265, 0, none⟩ = some (.int .i64 a0_0) := (blk_cell BK265.out 0).trans rfl
          have hcz54_1 : wr.cell? ⟨gb265, 1, none⟩ = some (.int .i64 a0_1) := (blk_cell BK265.out 1).trans rfl
          have hcz54_2 : wr.cell? ⟨gb265, 2, none⟩ = some (.int .i64 a0_2) := (blk_cell BK265.out 2).trans rfl
          have hcz54_3 : wr.cell? ⟨gb265, 3, none⟩ = some (.int .i64 a0_3) := (blk_cell BK265.out 3).trans rfl
          have hfz54_0 := blk_frozen BK265.out 0
          have hfz54_1 := blk_frozen BK265.out 1
          have hfz54_2 := blk_frozen BK265.out 2
          have hfz54_3 := blk_frozen BK265.out 3
          go_wp2_with (first | ((with_reducible refine gate_callee (f := 36) rfl ?_); refine goesL_ (some 46) rfl rfl Tryd.func36 (by kernel_rfl) rfl #[.agg #[.int .i64 a0_0, .int .i64 a0_2]] rfl (by (try simp only [List.map_toArray, List.map_cons, List.map_nil]); first | done | rfl | (simp only [List.length_drop, List.length_take]; rfl)) ?_; (with_reducible refine (impl_danceFor.calls k1 a0_0 a0_2 t272 _ A20.out).mono ?_); rintro e w55 ⟨rfl, hb⟩; refine ⟨_, rfl, ?_⟩; have n0_ := Aside0.mk (Kd.R_below (krq7 HO_22.out) hb); have n1_ := Aside0.mk (blk_below (g := gb265) (o := .cells #[.int .i64 a0_0, .int .i64 a0_1, .int .i64 a0_2, .int .i64 a0_3] 34 (0, 0)) (kbq7 BK265.out) hb); have n2_ := Aside0.mk (below_step (lb1q7 HB.out GE265.out) hb); clear HO_22; clear BK265; clear HB; have HO_22 := n0_; have BK265 := n1_; have HB := n2_; clear n0_ n1_ n2_; (try clear hb); (try clear hb2); (try clear hk); (try clear hi)) | ((with_reducible refine gate_callee (f := 37) rfl ?_); refine goesL_ (some 50) rfl rfl Tryd.func37 (by kernel_rfl) rfl #[.string ((⟨#[82]⟩ : ByteArray) ++ t272)] rfl (by (try simp only [List.map_toArray, List.map_cons, List.map_nil]); first | done | rfl | (simp only [List.length_drop, List.length_take]; rfl)) ?_; (with_reducible refine (impl_mapOf.calls k1 ((⟨#[82]⟩ : ByteArray) ++ t272) t273 t274 t275 t276 t277 _ A22.out).mono ?_); rintro e w56 ⟨rfl, hb⟩; refine ⟨_, rfl, ?_⟩; have n0_ := Aside0.mk (Kd.R_below (krq7 HO_22.out) hb); have n1_ := Aside0.mk (blk_below (g := gb265) (o := .cells #[.int .i64 a0_0, .int .i64 a0_1, .int .i64 a0_2, .int .i64 a0_3] 34 (0, 0)) (kbq7 BK265.out) hb); have n2_ := Aside0.mk (below_step (lb1q7 HB.out GE265.out) hb); clear HO_22; clear BK265; clear HB; have HO_22 := n0_; have BK265 := n1_; have HB := n2_; clear n0_ n1_ n2_; (try clear hb); (try clear hb2); (try clear hk); (try clear hi)) | ((with_reducible refine gate_dst (N := 7) rfl ?_); refine box_event ?hg (N := 7) ?hd (cs := #[.int .i64 0, .int .i64 0, .int .i64 0, .int .i64 0]) (t := 34) ?hr ?_; (case hd => rfl); (case hg => rfl); (case hr => first | (go_simp; done) | (go_simp; rfl)); intro gb278 hg w57 hbox hb; have n0_ := Aside0.mk (Kd.R_below (krq7 HO_22.out) hb); have n1_ := Aside0.mk (blk_below (g := gb265) (o := .cells #[.int .i64 a0_0, .int .i64 a0_1, .int .i64 a0_2, .int .i64 a0_3] 34 (0, 0)) (kbq7 BK265.out) hb); have n2_ := Aside0.mk (below_step (lb1q7 HB.out GE265.out) hb); have n3_ := Aside0.mk (hbox); have n4_ := Aside0.mk ((by rw [hg]; exact (below_size (lb1q7 HB.out GE265.out)) : w.heap.size ≤ gb278)); have n5_ := Aside0.mk ((by rw [hg]; exact (below_size (lb1q7 HB.out GE265.out)) : w.heap.size ≤ gb278)); have n6_ := Aside0.mk ((by rw [hg]; exact Nat.ne_of_lt (blk_lt (g := gb265) (o := .cells #[.int .i64 a0_0, .int .i64 a0_1, .int .i64 a0_2, .int .i64 a0_3] 34 (0, 0)) (kbq7 BK265.out)) : gb265 ≠ gb278)); have n7_ := Aside0.mk ((by rw [hg]; exact Nat.ne_of_gt (blk_lt (g := gb265) (o := .cells #[.int .i64 a0_0, .int .i64 a0_1, .int .i64 a0_2, .int .i64 a0_3] 34 (0, 0)) (kbq7 BK265.out)) : gb278 ≠ gb265)); clear HO_22; clear BK265; clear HB; have HO_22 := n0_; have BK265 := n1_; have HB := n2_; have BK278 := n3_; have GW278 := n4_; have GE278 := n5_; have NB265_278 := n6_; have NB278_265 := n7_; clear n0_ n1_ n2_ n3_ n4_ n5_ n6_ n7_; clear hb hbox hg; have hnb58 := NB278_265.out; have hnc58 := NB265_278.out; have hcz59_0 : w57.cell? ⟨gb278, 0, none⟩ = some (.int .i64 0) := (blk_cell BK278.out 0).trans rfl; have hcz59_1 : w57.cell? ⟨gb278, 1, none⟩ = some (.int .i64 0) := (blk_cell BK278.out 1).trans rfl; have hcz59_2 : w57.cell? ⟨gb278, 2, none⟩ = some (.int .i64 0) := (blk_cell BK278.out 2).trans rfl; have hcz59_3 : w57.cell? ⟨gb278, 3, none⟩ = some (.int .i64 0) := (blk_cell BK278.out 3).trans rfl; have hfz59_0 := blk_frozen BK278.out 0; have hfz59_1 := blk_frozen BK278.out 1; have hfz59_2 := blk_frozen BK278.out 2; have hfz59_3 := blk_frozen BK278.out 3; have hcz60_0 : w57.cell? ⟨gb265, 0, none⟩ = some (.int .i64 a0_0) := (blk_cell BK265.out 0).trans rfl; have hcz60_1 : w57.cell? ⟨gb265, 1, none⟩ = some (.int .i64 a0_1) := (blk_cell BK265.out 1).trans rfl; have hcz60_2 : w57.cell? ⟨gb265, 2, none⟩ = some (.int .i64 a0_2) := (blk_cell BK265.out 2).trans rfl; have hcz60_3 : w57.cell? ⟨gb265, 3, none⟩ = some (.int .i64 a0_3) := (blk_cell BK265.out 3).trans rfl; have hfz60_0 := blk_frozen BK265.out 0; have hfz60_1 := blk_frozen BK265.out 1; have hfz60_2 := blk_frozen BK265.out 2; have hfz60_3 := blk_frozen BK265.out 3) | ((with_reducible refine gate_callee (f := 35) rfl ?_); refine goesL_ (some 79) rfl rfl Tryd.func35 (by kernel_rfl) rfl #[.int .i64 (wrap64 ((wrap64 (t276 * a0_1)) - (wrap64 (t274 * a0_3))))] rfl (by (try simp only [List.map_toArray, List.map_cons, List.map_nil]); first | done | rfl | (simp only [List.length_drop, List.length_take]; rfl)) ?_; (with_reducible refine (impl_twists.calls (wrap64 ((wrap64 (t276 * a0_1)) - (wrap64 (t274 * a0_3)))) t280 _ A43.out).mono ?_); rintro e w61 ⟨rfl, hb⟩; refine ⟨_, rfl, ?_⟩; have n0_ := Aside0.mk (Kd.R_below (by (with_reducible repeat (first | apply Kd.R_alloc | apply Kd.R_drewN | apply Kd.R_drew)); exact (Kd.R_mono (Kd.R_far (p := ⟨gb278, 3, none⟩) (Kd.R_far (p := ⟨gb278, 2, none⟩) (Kd.R_far (p := ⟨gb278, 1, none⟩) (Kd.R_far (p := ⟨gb278, 0, none⟩) (Kd.R_types HO_22.out BK278.out (by decide)) (fun _ hk => hk.2) (.int .i64 t273)) (fun _ hk => hk.2) (.int .i64 t274)) (fun _ hk => hk.2) (.int .i64 t275)) (fun _ hk => hk.2) (.int .i64 t276)) (fun _ h_ => h_.1))) hb); have n1_ := Aside0.mk (blk_below (g := gb265) (o := .cells #[.int .i64 a0_0, .int .i64 a0_1, .int .i64 a0_2, .int .i64 a0_3] 34 (0, 0)) (kf1q7 BK265.out NB265_278.out) hb); have n2_ := Aside0.mk (blk_below (g := gb278) (o := .cells #[.int .i64 t273, .int .i64 t274, .int .i64 t275, .int .i64 t276] 34 (0, 0)) (by (with_reducible repeat (first | refine blk_drewN ?_ _ | refine blk_drew ?_ | refine blk_alloc ?_ _)); refine blk_put (cs := #[.int .i64 t273, .int .i64 t274, .int .i64 t275, .int .i64 0]) ?_ 3 _ rfl; (with_reducible repeat (first | refine blk_drewN ?_ _ | refine blk_drew ?_ | refine blk_alloc ?_ _)); refine blk_put (cs := #[.int .i64 t273, .int .i64 t274, .int .i64 0, .int .i64 0]) ?_ 2 _ rfl; (with_reducible repeat (first | refine blk_drewN ?_ _ | refine blk_drew ?_ | refine blk_alloc ?_ _)); refine blk_put (cs := #[.int .i64 t273, .int .i64 0, .int .i64 0, .int .i64 0]) ?_ 1 _ rfl; (with_reducible repeat (first | refine blk_drewN ?_ _ | refine blk_drew ?_ | refine blk_alloc ?_ _)); refine blk_put (cs := #[.int .i64 0, .int .i64 0, .int .i64 0, .int .i64 0]) ?_ 0 _ rfl; (with_reducible repeat (first | refine blk_drewN ?_ _ | refine blk_drew ?_ | refine blk_alloc ?_ _)); exact BK278.out) hb); have n3_ := Aside0.mk (below_step (lb2q7 HB.out GE265.out GE278.out) hb); clear HO_22; clear BK265; clear BK278; clear HB; have HO_22 := n0_; have BK265 := n1_; have BK278 := n2_; have HB := n3_; clear n0_ n1_ n2_ n3_; (try clear hb); (try clear hb2); (try clear hk); (try clear hi)))
          go_ret2
          exact ⟨by first | rfl | (simp [errW_none, errW_some] <;> rfl) | (simp [*, errW_none, errW_some] <;> rfl), by repeat (first | (with_reducible first | exact HB.out | apply below_alloc | apply pw_below_drewN | apply below_drew1 | refine below_set ?_ GE265.out | refine below_set ?_ GE278.out) | exact HB.out)⟩
        ·
         rw [if_neg c44] at H
         exact absurd H (by simp)
      ·
       rw [if_neg c21] at H
       exact absurd H (by simp)
 ·
  replace c3 := Bool.eq_false_iff.mpr c3
  subst c3
  have H1 : (some ((⟨#[]⟩ : ByteArray), false)) = some (r1, r2) := by rw [if_neg (show ¬ (false = true) by decide)] at H; exact H
  clear H
  have H := H1
  clear H1
  simp only [Option.some.injEq, Prod.mk.injEq] at H
  obtain ⟨rfl, rfl⟩ := H
  go_enter Tryd.func15, Tryd.ntmps15
  go_wp2_with (first | ((with_reducible refine gate_dst (N := 1) rfl ?_); refine box_event ?hg (N := 1) ?hd (cs := #[.int .i64 a0_0, .int .i64 a0_1, .int .i64 a0_2, .int .i64 a0_3]) (t := 34) ?hr ?_; (case hd => rfl); (case hg => rfl); (case hr => first | (go_simp; done) | (go_simp; rfl)); intro gb265 hg w62 hbox hb; have n0_ := Aside0.mk (below_step (lb0q7 HB.out) hb); have n1_ := Aside0.mk (hbox); have n2_ := Aside0.mk ((by rw [hg]; exact (below_size (lb0q7 HB.out)) : w.heap.size ≤ gb265)); have n3_ := Aside0.mk ((by rw [hg]; exact (below_size (lb0q7 HB.out)) : w.heap.size ≤ gb265)); clear HB; have HB := n0_; have BK265 := n1_; have GW265 := n2_; have GE265 := n3_; clear n0_ n1_ n2_ n3_; clear hb hbox hg; have hcz63_0 : w62.cell? ⟨gb265, 0, none⟩ = some (.int .i64 a0_0) := (blk_cell BK265.out 0).trans rfl; have hcz63_1 : w62.cell? ⟨gb265, 1, none⟩ = some (.int .i64 a0_1) := (blk_cell BK265.out 1).trans rfl; have hcz63_2 : w62.cell? ⟨gb265, 2, none⟩ = some (.int .i64 a0_2) := (blk_cell BK265.out 2).trans rfl; have hcz63_3 : w62.cell? ⟨gb265, 3, none⟩ = some (.int .i64 a0_3) := (blk_cell BK265.out 3).trans rfl; have hfz63_0 := blk_frozen BK265.out 0; have hfz63_1 := blk_frozen BK265.out 1; have hfz63_2 := blk_frozen BK265.out 2; have hfz63_3 := blk_frozen BK265.out 3) | ((with_reducible refine gate_callee (f := 34) rfl ?_); refine goesL_ (some 12) rfl rfl Tryd.func34 (by kernel_rfl) rfl #[.agg #[.int .i64 a0_0, .int .i64 a0_1, .int .i64 a0_2, .int .i64 a0_3]] rfl (by (try simp only [List.map_toArray, List.map_cons, List.map_nil]); first | done | rfl | (simp only [List.length_drop, List.length_take]; rfl)) ?_; (with_reducible refine (impl_isMap.calls a0_0 a0_1 a0_2 a0_3 false _ A2.out).mono ?_); rintro e w64 ⟨rfl, hb⟩; refine ⟨_, rfl, ?_⟩; have n0_ := Aside0.mk (blk_below (g := gb265) (o := .cells #[.int .i64 a0_0, .int .i64 a0_1, .int .i64 a0_2, .int .i64 a0_3] 34 (0, 0)) (kbq7 BK265.out) hb); have n1_ := Aside0.mk (below_step (lb1q7 HB.out GE265.out) hb); clear BK265; clear HB; have BK265 := n0_; have HB := n1_; clear n0_ n1_; (try clear hb); (try clear hb2); (try clear hk); (try clear hi)))
  go_ret2
  exact ⟨by first | rfl | (simp [errW_none, errW_some] <;> rfl) | (simp [*, errW_none, errW_some] <;> rfl), by repeat (first | (with_reducible first | exact HB.out | apply below_alloc | apply pw_below_drewN | apply below_drew1 | refine below_set ?_ GE265.out) | exact HB.out)⟩

/-! ### spec_l4Twists: function 40 -/
mutual
def spec_l4Twists.l0 : Nat → Int → ByteArray → Int → Option (ByteArray)
  | 0, _, _, _ => none
  | k + 1, x0, x3, x4 => if x4 < x0 then (if x3.size + 1 ≤ 9223372036854775807 then (spec_l4Twists.l0 k x0 (x3 ++ (⟨#[84]⟩ : ByteArray)) (wrap64 (x4 + 1))) else (none)) else (spec_l4Twists.l1 k x0 x3 0)
def spec_l4Twists.l1 : Nat → Int → ByteArray → Int → Option (ByteArray)
  | 0, _, _, _ => none
  | k + 1, x0, x3, x5 => if x5 < (wrap64 (-x0)) then (if x3.size + 1 ≤ 9223372036854775807 then (spec_l4Twists.l1 k x0 (x3 ++ (⟨#[116]⟩ : ByteArray)) (wrap64 (x5 + 1))) else (none)) else (some x3)
end
def spec_l4Twists.f (k : Nat) (a0 : Int) : Option (ByteArray) := spec_l4Twists.l0 k a0 (⟨#[]⟩ : ByteArray) 0
theorem spec_l4Twists.mono_l : ∀ k, (∀ y0 y1 y2, LeO (spec_l4Twists.l0 k y0 y1 y2) (spec_l4Twists.l0 (k + 1) y0 y1 y2)) ∧ (∀ y0 y1 y2, LeO (spec_l4Twists.l1 k y0 y1 y2) (spec_l4Twists.l1 (k + 1) y0 y1 y2))
  | 0 => ⟨fun _ _ _ r h => by simp [spec_l4Twists.l0] at h, fun _ _ _ r h => by simp [spec_l4Twists.l1] at h⟩
  | k + 1 => by
    obtain ⟨ih0, ih1⟩ := spec_l4Twists.mono_l k
    refine ⟨?_, ?_⟩
    · intro y0 y1 y2
      unfold spec_l4Twists.l0
      repeat' first
      | (with_reducible exact ih0 _ _ _)
      | (with_reducible exact ih1 _ _ _)
      | (with_reducible exact LeO.refl _)
      | (with_reducible exact LeO.none _)
      | (with_reducible refine LeO.ite ?_ ?_)
      | (with_reducible refine LeO.bind ?_ (fun _ => ?_))
      | exact ih0 _ _ _
      | exact ih1 _ _ _
      | exact LeO.none _
      | refine LeO.ite ?_ ?_
      | refine LeO.bind ?_ (fun _ => ?_)
    · intro y0 y1 y2
      unfold spec_l4Twists.l1
      repeat' first
      | (with_reducible exact ih0 _ _ _)
      | (with_reducible exact ih1 _ _ _)
      | (with_reducible exact LeO.refl _)
      | (with_reducible exact LeO.none _)
      | (with_reducible refine LeO.ite ?_ ?_)
      | (with_reducible refine LeO.bind ?_ (fun _ => ?_))
      | exact ih0 _ _ _
      | exact ih1 _ _ _
      | exact LeO.none _
      | refine LeO.ite ?_ ?_
      | refine LeO.bind ?_ (fun _ => ?_)
theorem spec_l4Twists.mono : ∀ a0 k, LeO (spec_l4Twists.f k a0) (spec_l4Twists.f (k + 1) a0) := by
  intro a0 k
  obtain ⟨ih0, ih1⟩ := spec_l4Twists.mono_l k
  unfold spec_l4Twists.f
  repeat' first
      | (with_reducible exact ih0 _ _ _)
      | (with_reducible exact ih1 _ _ _)
      | (with_reducible exact LeO.refl _)
      | (with_reducible exact LeO.none _)
      | (with_reducible refine LeO.ite ?_ ?_)
      | (with_reducible refine LeO.bind ?_ (fun _ => ?_))
      | exact ih0 _ _ _
      | exact ih1 _ _ _
      | exact LeO.none _
      | refine LeO.ite ?_ ?_
      | refine LeO.bind ?_ (fun _ => ?_)
set_option maxHeartbeats 8000000 in
set_option maxRecDepth 100000 in
theorem spec_l4Twists.calls (k : Nat) (a0 : Int) (r : ByteArray) (w : World) (h : spec_l4Twists.f k a0 = some r) :
  Calls Tryd.prog 40 #[.int .i64 a0] w fun e w' => e = .returned (.string r) ∧ Drawn0 w w' := by
 have H : (spec_l4Twists.l0 k a0 (⟨#[]⟩ : ByteArray) 0) = some r := h
 clear h
 have H' := Aside0.mk H
 clear H
 go_enter Tryd.func40, Tryd.ntmps40
 go_wp2
 go_loopg [3, 4] k (fun kq v3 v4 w' => ∃ (x3_1 : ByteArray) (x4_1 : Int), v3 = .string x3_1 ∧ v4 = .int .i64 x4_1 ∧ Aside0 (spec_l4Twists.l0 kq a0 x3_1 x4_1 = some r) ∧ Aside0 (kq ≤ k) ∧ Drawn0 w w')
 case atStart => exact ⟨((⟨#[]⟩ : ByteArray)), (0), (by first | rfl | (simp; done) | (simp [*]; done)), (by first | rfl | (simp; done) | (simp [*]; done)), H', ⟨Nat.le_refl _⟩, by repeat (first | exact Drawn0.refl _ | apply Drawn0.step)⟩
 case round =>
  clear H'
  obtain ⟨x3_1, x4_1, rfl, rfl, HA, HK1, ⟨m1, rfl⟩⟩ := hrel
  cases gk with
  | zero => exact absurd HA.out (by simp [spec_l4Twists.l0])
  | succ k1 =>
   have H := HA.out
   clear HA
   simp only [spec_l4Twists.l0] at H
   by_cases c2 : x4_1 < a0
   ·
    rw [if_pos c2] at H
    have c2b0 : decide (x4_1 < a0) = true := decide_eq_true c2
    clear c2
    by_cases c3 : x3_1.size + 1 ≤ 9223372036854775807
    ·
     rw [if_pos c3] at H
     have c3b0 := eq_true c3
     have c3b1 : decide (x3_1.size + 1 ≤ 9223372036854775807) = true := decide_eq_true c3
     try have c3b2 : (9223372036854775807 < x3_1.size + 1) = False := eq_false (Nat.not_lt.2 c3)
     have H' := Aside0.mk H
     clear H
     go_wp2
     go_roundg k1
     case measure => have := HK1.out; omega
     case rel => exact ⟨(x3_1 ++ (⟨#[84]⟩ : ByteArray)), (wrap64 (x4_1 + 1)), (by first | rfl | (simp; done) | (simp [*]; done)), (by first | rfl | (simp; done) | (simp [*]; done)), H', ⟨by have := HK1.out; omega⟩, by repeat (first | exact Drawn0.refl _ | apply Drawn0.step)⟩
    ·
     rw [if_neg c3] at H
     exact absurd H (by simp)
   ·
    rw [if_neg c2] at H
    have c2b0 : decide (x4_1 < a0) = false := decide_eq_false c2
    clear c2
    have H' := Aside0.mk H
    clear H
    go_wp2
    go_loopg [3, 5] k1 (fun kq v3 v5 w' => ∃ (x3_2 : ByteArray) (x5_2 : Int), v3 = .string x3_2 ∧ v5 = .int .i64 x5_2 ∧ Aside0 (spec_l4Twists.l1 kq a0 x3_2 x5_2 = some r) ∧ Aside0 (kq ≤ k1) ∧ Drawn0 w w')
    case atStart => exact ⟨(x3_1), (0), (by first | rfl | (simp; done) | (simp [*]; done)), (by first | rfl | (simp; done) | (simp [*]; done)), H', ⟨Nat.le_refl _⟩, by repeat (first | exact Drawn0.refl _ | apply Drawn0.step)⟩
    case round =>
     clear H'; (try clear c2); (try clear c2b0); (try clear p2); (try clear c3); (try clear c3b0); (try clear c3b1); (try clear c3b2)
     obtain ⟨x3_2, x5_2, rfl, rfl, HA, HK2, ⟨m2, rfl⟩⟩ := hrel
     cases gk with
     | zero => exact absurd HA.out (by simp [spec_l4Twists.l1])
     | succ k2 =>
      have H := HA.out
      clear HA
      simp only [spec_l4Twists.l1] at H
      by_cases c4 : x5_2 < (wrap64 (-a0))
      ·
       rw [if_pos c4] at H
       have c4b0 : decide (x5_2 < (wrap64 (-a0))) = true := decide_eq_true c4
       clear c4
       by_cases c5 : x3_2.size + 1 ≤ 9223372036854775807
       ·
        rw [if_pos c5] at H
        have c5b0 := eq_true c5
        have c5b1 : decide (x3_2.size + 1 ≤ 9223372036854775807) = true := decide_eq_true c5
        try have c5b2 : (9223372036854775807 < x3_2.size + 1) = False := eq_false (Nat.not_lt.2 c5)
        have H' := Aside0.mk H
        clear H
        go_wp2
        go_roundg k2
        case measure => have := HK1.out; have := HK2.out; omega
        case rel => exact ⟨(x3_2 ++ (⟨#[116]⟩ : ByteArray)), (wrap64 (x5_2 + 1)), (by first | rfl | (simp; done) | (simp [*]; done)), (by first | rfl | (simp; done) | (simp [*]; done)), H', ⟨by have := HK1.out; have := HK2.out; omega⟩, by repeat (first | exact Drawn0.refl _ | apply Drawn0.step)⟩
       ·
        rw [if_neg c5] at H
        exact absurd H (by simp)
      ·
       rw [if_neg c4] at H
       have c4b0 : decide (x5_2 < (wrap64 (-a0))) = false := decide_eq_false c4
       clear c4
       obtain rfl := Option.some.inj H
       go_wp2
       go_ret
       exact ⟨by first | rfl | (simp; done) | (simp [*]; done), by repeat (first | exact Drawn0.refl _ | apply Drawn0.step)⟩

/-! ### spec_l3Under: function 94 -/
def spec_l3Under.f (a0_0 : Int) (a0_1 : Int) : Option (Int) := if a0_1 = 0 then (none) else (if (wrap64 ((wrap64 (Int.tdiv a0_0 a0_1)) * a0_1)) > a0_0 then (some (wrap64 ((wrap64 (Int.tdiv a0_0 a0_1)) - 1))) else (some (wrap64 (Int.tdiv a0_0 a0_1))))
set_option maxHeartbeats 8000000 in
set_option maxRecDepth 100000 in
theorem spec_l3Under.calls (a0_0 : Int) (a0_1 : Int) (r : Int) (w : World) (h : spec_l3Under.f a0_0 a0_1 = some r) :
  Calls Tryd.prog 94 #[.agg #[.int .i64 a0_0, .int .i64 a0_1]] w fun e w' => e = .returned (.int .i64 r) ∧ Below w.heap.size w w' := by
 have hu24 := Tryd.underlying24
 have HB := Aside0.mk (Below.refl w.heap.size w)
 have H : (if a0_1 = 0 then (none) else (if (wrap64 ((wrap64 (Int.tdiv a0_0 a0_1)) * a0_1)) > a0_0 then (some (wrap64 ((wrap64 (Int.tdiv a0_0 a0_1)) - 1))) else (some (wrap64 (Int.tdiv a0_0 a0_1))))) = some r := h
 clear h
 by_cases c2 : a0_1 = 0
 ·
  rw [if_pos c2] at H
  exact absurd H (by simp)
 ·
  rw [if_neg c2] at H
  have c2b0 : (a0_1 == 0) = false := beq_eq_false_iff_ne.mpr c2
  have c2b1 : (a0_1 != 0) = true := bne_iff_ne.mpr c2
  by_cases c3 : (wrap64 ((wrap64 (Int.tdiv a0_0 a0_1)) * a0_1)) > a0_0
  ·
   rw [if_pos c3] at H
   have c3b0 : decide (a0_0 < (wrap64 ((wrap64 (Int.tdiv a0_0 a0_1)) * a0_1))) = true := decide_eq_true c3
   clear c3
   obtain rfl := Option.some.inj H
   go_enter Tryd.func94, Tryd.ntmps94
   go_wp2_with (first | ((with_reducible refine gate_dst (N := 1) rfl ?_); refine box_event ?hg (N := 1) ?hd (cs := #[.int .i64 a0_0, .int .i64 a0_1]) (t := 24) ?hr ?_; (case hd => rfl); (case hg => rfl); (case hr => first | (go_simp; done) | (go_simp; rfl)); intro gb281 hg w4 hbox hb; have n0_ := Aside0.mk (below_step (lb0q7 HB.out) hb); have n1_ := Aside0.mk (hbox); have n2_ := Aside0.mk ((by rw [hg]; exact (below_size (lb0q7 HB.out)) : w.heap.size ≤ gb281)); have n3_ := Aside0.mk ((by rw [hg]; exact (below_size (lb0q7 HB.out)) : w.heap.size ≤ gb281)); clear HB; have HB := n0_; have BK281 := n1_; have GW281 := n2_; have GE281 := n3_; clear n0_ n1_ n2_ n3_; clear hb hbox hg; have hcz5_0 : w4.cell? ⟨gb281, 0, none⟩ = some (.int .i64 a0_0) := (blk_cell BK281.out 0).trans rfl; have hcz5_1 : w4.cell? ⟨gb281, 1, none⟩ = some (.int .i64 a0_1) := (blk_cell BK281.out 1).trans rfl; have hfz5_0 := blk_frozen BK281.out 0; have hfz5_1 := blk_frozen BK281.out 1))
   go_ret
   exact ⟨by first | rfl | (simp [errW_none, errW_some] <;> rfl) | (simp [*, errW_none, errW_some] <;> rfl), by repeat (first | (with_reducible first | exact HB.out | apply below_alloc | apply pw_below_drewN | apply below_drew1 | refine below_set ?_ GE281.out) | exact HB.out)⟩
  ·
   rw [if_neg c3] at H
   have c3b0 : decide (a0_0 < (wrap64 ((wrap64 (Int.tdiv a0_0 a0_1)) * a0_1))) = false := decide_eq_false c3
   clear c3
   obtain rfl := Option.some.inj H
   go_enter Tryd.func94, Tryd.ntmps94
   go_wp2_with (first | ((with_reducible refine gate_dst (N := 1) rfl ?_); refine box_event ?hg (N := 1) ?hd (cs := #[.int .i64 a0_0, .int .i64 a0_1]) (t := 24) ?hr ?_; (case hd => rfl); (case hg => rfl); (case hr => first | (go_simp; done) | (go_simp; rfl)); intro gb281 hg w6 hbox hb; have n0_ := Aside0.mk (below_step (lb0q7 HB.out) hb); have n1_ := Aside0.mk (hbox); have n2_ := Aside0.mk ((by rw [hg]; exact (below_size (lb0q7 HB.out)) : w.heap.size ≤ gb281)); have n3_ := Aside0.mk ((by rw [hg]; exact (below_size (lb0q7 HB.out)) : w.heap.size ≤ gb281)); clear HB; have HB := n0_; have BK281 := n1_; have GW281 := n2_; have GE281 := n3_; clear n0_ n1_ n2_ n3_; clear hb hbox hg; have hcz7_0 : w6.cell? ⟨gb281, 0, none⟩ = some (.int .i64 a0_0) := (blk_cell BK281.out 0).trans rfl; have hcz7_1 : w6.cell? ⟨gb281, 1, none⟩ = some (.int .i64 a0_1) := (blk_cell BK281.out 1).trans rfl; have hfz7_0 := blk_frozen BK281.out 0; have hfz7_1 := blk_frozen BK281.out 1))
   go_ret
   exact ⟨by first | rfl | (simp [errW_none, errW_some] <;> rfl) | (simp [*, errW_none, errW_some] <;> rfl), by repeat (first | (with_reducible first | exact HB.out | apply below_alloc | apply pw_below_drewN | apply below_drew1 | refine below_set ?_ GE281.out) | exact HB.out)⟩

/-! ### spec_l4Over: function 79 -/
def spec_l4Over.f (a0_0 : Int) (a0_1 : Int) : Option (Int) := (spec_l3Under.f (wrap64 (-a0_0)) a0_1).bind fun t283 => (some (wrap64 (-t283)))
set_option maxHeartbeats 8000000 in
set_option maxRecDepth 100000 in
theorem spec_l4Over.calls (a0_0 : Int) (a0_1 : Int) (r : Int) (w : World) (h : spec_l4Over.f a0_0 a0_1 = some r) :
  Calls Tryd.prog 79 #[.agg #[.int .i64 a0_0, .int .i64 a0_1]] w fun e w' => e = .returned (.int .i64 r) ∧ Below w.heap.size w w' := by
 have hu24 := Tryd.underlying24
 have HB := Aside0.mk (Below.refl w.heap.size w)
 have H : ((spec_l3Under.f (wrap64 (-a0_0)) a0_1).bind fun t283 => (some (wrap64 (-t283)))) = some r := h
 clear h
 replace H := Option.bind_eq_some_iff.mp H
 obtain ⟨t283, A20, H⟩ := H
 replace H : (some (wrap64 (-t283))) = some r := H
 have A2 := Aside0.mk A20
 clear A20
 obtain rfl := Option.some.inj H
 go_enter Tryd.func79, Tryd.ntmps79
 go_wp2_with (first | ((with_reducible refine gate_dst (N := 1) rfl ?_); refine box_event ?hg (N := 1) ?hd (cs := #[.int .i64 a0_0, .int .i64 a0_1]) (t := 24) ?hr ?_; (case hd => rfl); (case hg => rfl); (case hr => first | (go_simp; done) | (go_simp; rfl)); intro gb282 hg w3 hbox hb; have n0_ := Aside0.mk (below_step (lb0q7 HB.out) hb); have n1_ := Aside0.mk (hbox); have n2_ := Aside0.mk ((by rw [hg]; exact (below_size (lb0q7 HB.out)) : w.heap.size ≤ gb282)); have n3_ := Aside0.mk ((by rw [hg]; exact (below_size (lb0q7 HB.out)) : w.heap.size ≤ gb282)); clear HB; have HB := n0_; have BK282 := n1_; have GW282 := n2_; have GE282 := n3_; clear n0_ n1_ n2_ n3_; clear hb hbox hg; have hcz4_0 : w3.cell? ⟨gb282, 0, none⟩ = some (.int .i64 a0_0) := (blk_cell BK282.out 0).trans rfl; have hcz4_1 : w3.cell? ⟨gb282, 1, none⟩ = some (.int .i64 a0_1) := (blk_cell BK282.out 1).trans rfl; have hfz4_0 := blk_frozen BK282.out 0; have hfz4_1 := blk_frozen BK282.out 1) | ((with_reducible refine gate_callee (f := 94) rfl ?_); refine goesL_ (some 9) rfl rfl Tryd.func94 (by kernel_rfl) rfl #[.agg #[.int .i64 (wrap64 (-a0_0)), .int .i64 a0_1]] rfl (by (try simp only [List.map_toArray, List.map_cons, List.map_nil]); first | done | rfl | (simp only [List.length_drop, List.length_take]; rfl)) ?_; (with_reducible refine (spec_l3Under.calls (wrap64 (-a0_0)) a0_1 t283 _ A2.out).mono ?_); rintro e w5 ⟨rfl, hb⟩; refine ⟨_, rfl, ?_⟩; have n0_ := Aside0.mk (blk_below (g := gb282) (o := .cells #[.int .i64 a0_0, .int .i64 a0_1] 24 (0, 0)) (kbq7 BK282.out) hb); have n1_ := Aside0.mk (below_step (lb1q7 HB.out GE282.out) hb); clear BK282; clear HB; have BK282 := n0_; have HB := n1_; clear n0_ n1_; (try clear hb); (try clear hb2); (try clear hk); (try clear hi)))
 go_ret
 exact ⟨by first | rfl | (simp [errW_none, errW_some] <;> rfl) | (simp [*, errW_none, errW_some] <;> rfl), by repeat (first | (with_reducible first | exact HB.out | apply below_alloc | apply pw_below_drewN | apply below_drew1 | refine below_set ?_ GE282.out) | exact HB.out)⟩

/-! ### spec_l4Terms: function 62 -/
def spec_l4Terms.l0 : Nat → List Int → Int → Int → Option (List Int)
  | 0, _, _, _ => none
  | k + 1, x3, x289000, x289001 => if x289001 > 0 then ((spec_l4Over.f x289000 x289001).bind fun t289 => (if x3.length < 17592186044416 then (spec_l4Terms.l0 k (x3 ++ [t289]) x289001 (wrap64 ((wrap64 (t289 * x289001)) - x289000))) else (none))) else (some x3)
def spec_l4Terms.f (k : Nat) (a0_0 : Int) (a0_1 : Int) : Option (List Int) := spec_l4Terms.l0 k (([] : List Int)) a0_0 a0_1
theorem spec_l4Terms.mono_l : ∀ k, (∀ y0 y1 y2, LeO (spec_l4Terms.l0 k y0 y1 y2) (spec_l4Terms.l0 (k + 1) y0 y1 y2))
  | 0 => fun _ _ _ r h => by simp [spec_l4Terms.l0] at h
  | k + 1 => by
    have ih0 := spec_l4Terms.mono_l k
    · intro y0 y1 y2
      unfold spec_l4Terms.l0
      repeat' first
      | (with_reducible exact ih0 _ _ _)
      | (with_reducible exact LeO.refl _)
      | (with_reducible exact LeO.none _)
      | (with_reducible refine LeO.ite ?_ ?_)
      | (with_reducible refine LeO.bind ?_ (fun _ => ?_))
      | exact ih0 _ _ _
      | exact LeO.none _
      | refine LeO.ite ?_ ?_
      | refine LeO.bind ?_ (fun _ => ?_)
theorem spec_l4Terms.mono : ∀ a0 a1 k, LeO (spec_l4Terms.f k a0 a1) (spec_l4Terms.f (k + 1) a0 a1) := by
  intro a0 a1 k
  have ih0 := spec_l4Terms.mono_l k
  unfold spec_l4Terms.f
  repeat' first
      | (with_reducible exact ih0 _ _ _)
      | (with_reducible exact LeO.refl _)
      | (with_reducible exact LeO.none _)
      | (with_reducible refine LeO.ite ?_ ?_)
      | (with_reducible refine LeO.bind ?_ (fun _ => ?_))
      | exact ih0 _ _ _
      | exact LeO.none _
      | refine LeO.ite ?_ ?_
      | refine LeO.bind ?_ (fun _ => ?_)
set_option maxHeartbeats 8000000 in
set_option maxRecDepth 100000 in
theorem spec_l4Terms.calls (k : Nat) (a0_0 : Int) (a0_1 : Int) (r : List Int) (w : World) (h : spec_l4Terms.f k a0_0 a0_1 = some r) :
  Calls Tryd.prog 62 #[.agg #[.int .i64 a0_0, .int .i64 a0_1]] w fun e w' => ∃ v0_ : Value, e = .returned (v0_) ∧ Kd.R (Kd.int .i64) 3 w' w.heap.size (fun _ => True) v0_ r ∧ Below w.heap.size w w' := by
 have hu24 := Tryd.underlying24
 have HB := Aside0.mk (Below.refl w.heap.size w)
 have H : (spec_l4Terms.l0 k (([] : List Int)) a0_0 a0_1) = some r := h
 clear h
 obtain ⟨y285, hy285⟩ : ∃ y_ : List Int, y_ = (([] : List Int)) := ⟨_, rfl⟩
 replace H : (spec_l4Terms.l0 k y285 a0_0 a0_1) = some r := by first | (rw [hy285]; with_reducible exact H) | (have H2_ := (Option.bind_some _ _).symm.trans H; rw [hy285]; with_reducible exact H2_) | (have H2_ := (Option.bind_some _ _).symm.trans H; with_reducible exact H2_) | with_reducible exact H | (rw [hy285]; exact H) | exact H
 have Ny285 := Aside0.mk hy285
 clear hy285
 have H' := Aside0.mk H
 clear H
 go_enter Tryd.func62, Tryd.ntmps62
 go_wp2_with (first | ((with_reducible refine gate_dst (N := 1) rfl ?_); refine box_event ?hg (N := 1) ?hd (cs := #[.int .i64 a0_0, .int .i64 a0_1]) (t := 24) ?hr ?_; (case hd => rfl); (case hg => rfl); (case hr => first | (go_simp; done) | (go_simp; rfl)); intro gb284 hg w2 hbox hb; have n0_ := Aside0.mk (below_step (lb0q7 HB.out) hb); have n1_ := Aside0.mk (hbox); have n2_ := Aside0.mk ((by rw [hg]; exact (below_size (lb0q7 HB.out)) : w.heap.size ≤ gb284)); have n3_ := Aside0.mk ((by rw [hg]; exact (below_size (lb0q7 HB.out)) : w.heap.size ≤ gb284)); clear HB; have HB := n0_; have BK284 := n1_; have GW284 := n2_; have GE284 := n3_; clear n0_ n1_ n2_ n3_; clear hb hbox hg) | ((with_reducible refine gate_dst (N := 6) rfl ?_); refine Kd.R_lit (Kd.int .i64) _ 3 ?hg (N := 6) ?hd (xs := ([] : List Int)) (inner := []) (ok := fun _ => True) (okp := fun _ => True) ?hr ?hp (fun _ hk => hk) trivial (Below.refl _ _) (Nat.le_refl _) (by simp) ?_; (case hd => rfl); (case hg => rfl); (case hr => first | (go_simp; done) | (go_simp; rfl)); (case hp => exact (Reps.none _ _)); intro v286 w3 ho4 hb hg_ hnew_; clear hg_ hnew_; (first | rw [← Ny285.out] at ho4 | (simp only [Int.reduceToNat] at ho4; rw [← Ny285.out] at ho4)); have n0_ := Aside0.mk (Kd.R_lower ho4 (below_size (lb1q7 HB.out GE284.out))); have n1_ := Aside0.mk (blk_below (g := gb284) (o := .cells #[.int .i64 a0_0, .int .i64 a0_1] 24 (0, 0)) (kbq7 BK284.out) hb); have n2_ := Aside0.mk (below_step (lb1q7 HB.out GE284.out) hb); clear BK284; clear HB; have HO287 := n0_; have BK284 := n1_; have HB := n2_; clear n0_ n1_ n2_; clear hb ho4; have hcz5_0 : w3.cell? ⟨gb284, 0, none⟩ = some (.int .i64 a0_0) := (blk_cell BK284.out 0).trans rfl; have hcz5_1 : w3.cell? ⟨gb284, 1, none⟩ = some (.int .i64 a0_1) := (blk_cell BK284.out 1).trans rfl; have hfz5_0 := blk_frozen BK284.out 0; have hfz5_1 := blk_frozen BK284.out 1) | ((with_reducible refine gate_dst (N := 4) rfl ?_); refine box_event ?hg (N := 4) ?hd (cs := #[.int .i64 0, .int .i64 0]) (t := 24) ?hr ?_; (case hd => rfl); (case hg => rfl); (case hr => first | (go_simp; done) | (go_simp; rfl)); intro gb288 hg w6 hbox hb; have n0_ := Aside0.mk (Kd.R_below (krq7 HO287.out) hb); have n1_ := Aside0.mk (blk_below (g := gb284) (o := .cells #[.int .i64 a0_0, .int .i64 a0_1] 24 (0, 0)) (kbq7 BK284.out) hb); have n2_ := Aside0.mk (below_step (lb1q7 HB.out GE284.out) hb); have n3_ := Aside0.mk (hbox); have n4_ := Aside0.mk ((by rw [hg]; exact (below_size (lb1q7 HB.out GE284.out)) : w.heap.size ≤ gb288)); have n5_ := Aside0.mk ((by rw [hg]; exact (below_size (lb1q7 HB.out GE284.out)) : w.heap.size ≤ gb288)); have n6_ := Aside0.mk ((by rw [hg]; exact Nat.ne_of_lt (blk_lt (g := gb284) (o := .cells #[.int .i64 a0_0, .int .i64 a0_1] 24 (0, 0)) (kbq7 BK284.out)) : gb284 ≠ gb288)); have n7_ := Aside0.mk ((by rw [hg]; exact Nat.ne_of_gt (blk_lt (g := gb284) (o := .cells #[.int .i64 a0_0, .int .i64 a0_1] 24 (0, 0)) (kbq7 BK284.out)) : gb288 ≠ gb284)); clear HO287; clear BK284; clear HB; have HO287 := n0_; have BK284 := n1_; have HB := n2_; have BK288 := n3_; have GW288 := n4_; have GE288 := n5_; have NB284_288 := n6_; have NB288_284 := n7_; clear n0_ n1_ n2_ n3_ n4_ n5_ n6_ n7_; clear hb hbox hg; have hnb7 := NB288_284.out; have hnc7 := NB284_288.out; have hcz8_0 : w6.cell? ⟨gb288, 0, none⟩ = some (.int .i64 0) := (blk_cell BK288.out 0).trans rfl; have hcz8_1 : w6.cell? ⟨gb288, 1, none⟩ = some (.int .i64 0) := (blk_cell BK288.out 1).trans rfl; have hfz8_0 := blk_frozen BK288.out 0; have hfz8_1 := blk_frozen BK288.out 1))
 go_loopg [3] k (fun kq v3 w' => ∃ (x3_1 : List Int) (x289000_1 : Int) (x289001_1 : Int), Aside0 (spec_l4Terms.l0 kq x3_1 x289000_1 x289001_1 = some r) ∧ Aside0 (kq ≤ k) ∧ Aside0 (Kd.R (Kd.int .i64) 3 w' w.heap.size (fun _ => True) v3 x3_1) ∧ Aside0 (w'.heap[gb284]? = some (.cells #[.int .i64 a0_0, .int .i64 a0_1] 24 (0, 0))) ∧ Aside0 (w'.heap[gb288]? = some (.cells #[.int .i64 x289000_1, .int .i64 x289001_1] 24 (0, 0))) ∧ Aside0 (Below w.heap.size w w'))
 case atStart => exact ⟨(y285), (a0_0), (a0_1), H', ⟨Nat.le_refl _⟩, ⟨by (with_reducible repeat (first | apply Kd.R_alloc | apply Kd.R_drewN | apply Kd.R_drew)); exact Kd.R_mono (Kd.R_far (p := ⟨gb288, 1, none⟩) (Kd.R_far (p := ⟨gb288, 0, none⟩) (Kd.R_types HO287.out BK288.out (by decide)) (fun _ hk => hk.2) (.int .i64 a0_0)) (fun _ hk => hk.2) (.int .i64 a0_1)) (fun _ hk => trivial)⟩, ⟨kf1q7 BK284.out NB284_288.out⟩, ⟨by (with_reducible repeat (first | refine blk_drewN ?_ _ | refine blk_drew ?_ | refine blk_alloc ?_ _)); refine blk_put (cs := #[.int .i64 a0_0, .int .i64 0]) ?_ 1 _ rfl; (with_reducible repeat (first | refine blk_drewN ?_ _ | refine blk_drew ?_ | refine blk_alloc ?_ _)); refine blk_put (cs := #[.int .i64 0, .int .i64 0]) ?_ 0 _ rfl; (with_reducible repeat (first | refine blk_drewN ?_ _ | refine blk_drew ?_ | refine blk_alloc ?_ _)); exact BK288.out⟩, ⟨lb2q7 HB.out GE284.out GE288.out⟩⟩
 case round =>
  clear H'; (try clear p2); (try clear c6); (try clear c7); (try clear hcz5_0); (try clear hcz5_1); (try clear hcz8_0); (try clear hcz8_1); (try clear hfz5_0); (try clear hfz5_1); (try clear hfz8_0); (try clear hfz8_1)
  obtain ⟨x3_1, x289000_1, x289001_1, HA, HK1, HO_3, BK284, BK288, HB⟩ := hrel
  cases gk with
  | zero => exact absurd HA.out (by simp [spec_l4Terms.l0])
  | succ k1 =>
   have H := HA.out
   clear HA
   simp only [spec_l4Terms.l0] at H
   by_cases c9 : x289001_1 > 0
   ·
    rw [if_pos c9] at H
    have c9b0 : decide (0 < x289001_1) = true := decide_eq_true c9
    clear c9
    replace H := Option.bind_eq_some_iff.mp H
    obtain ⟨t289, A100, H⟩ := H
    replace H : (if x3_1.length < 17592186044416 then (spec_l4Terms.l0 k1 (x3_1 ++ [t289]) x289001_1 (wrap64 ((wrap64 (t289 * x289001_1)) - x289000_1))) else (none)) = some r := H
    have A10 := Aside0.mk A100
    clear A100
    by_cases c11 : x3_1.length < 17592186044416
    ·
     rw [if_pos c11] at H
     have LMc11 := Aside0.mk c11
     clear c11
     obtain ⟨y290, hy290⟩ : ∃ y_ : List Int, y_ = (x3_1 ++ [t289]) := ⟨_, rfl⟩
     replace H : (spec_l4Terms.l0 k1 y290 x289001_1 (wrap64 ((wrap64 (t289 * x289001_1)) - x289000_1))) = some r := by first | (rw [hy290]; with_reducible exact H) | (have H2_ := (Option.bind_some _ _).symm.trans H; rw [hy290]; with_reducible exact H2_) | (have H2_ := (Option.bind_some _ _).symm.trans H; with_reducible exact H2_) | with_reducible exact H | (rw [hy290]; exact H) | exact H
     have Ny290 := Aside0.mk hy290
     clear hy290
     have H' := Aside0.mk H
     clear H
     have hnb12 := NB288_284.out
     have hnc12 := NB284_288.out
     have hcz13_0 : wr.cell? ⟨gb288, 0, none⟩ = some (.int .i64 x289000_1) := (blk_cell BK288.out 0).trans rfl
     have hcz13_1 : wr.cell? ⟨gb288, 1, none⟩ = some (.int .i64 x289001_1) := (blk_cell BK288.out 1).trans rfl
     have hfz13_0 := blk_frozen BK288.out 0
     have hfz13_1 := blk_frozen BK288.out 1
     go_wp2_with (first | ((with_reducible refine gate_callee (f := 79) rfl ?_); refine goesL_ (some 12) rfl rfl Tryd.func79 (by kernel_rfl) rfl #[.agg #[.int .i64 x289000_1, .int .i64 x289001_1]] rfl (by (try simp only [List.map_toArray, List.map_cons, List.map_nil]); first | done | rfl | (simp only [List.length_drop, List.length_take]; rfl)) ?_; (with_reducible refine (spec_l4Over.calls x289000_1 x289001_1 t289 _ A10.out).mono ?_); rintro e w14 ⟨rfl, hb⟩; refine ⟨_, rfl, ?_⟩; have n0_ := Aside0.mk (Kd.R_below (krq7 HO_3.out) hb); have n1_ := Aside0.mk (blk_below (g := gb284) (o := .cells #[.int .i64 a0_0, .int .i64 a0_1] 24 (0, 0)) (kbq7 BK284.out) hb); have n2_ := Aside0.mk (blk_below (g := gb288) (o := .cells #[.int .i64 x289000_1, .int .i64 x289001_1] 24 (0, 0)) (kbq7 BK288.out) hb); have n3_ := Aside0.mk (below_step (lb2q7 HB.out GE284.out GE288.out) hb); clear HO_3; clear BK284; clear BK288; clear HB; have HO_3 := n0_; have BK284 := n1_; have BK288 := n2_; have HB := n3_; clear n0_ n1_ n2_ n3_; (try clear hb); (try clear hb2); (try clear hk); (try clear hi)) | ((with_reducible refine gate_builtin (b := .append) (xs := #[.tmp 13, .tmp 15]) rfl ?_); at_builtin; refine Kd.R_append (Kd.int .i64) (w0 := w) w.heap.size rfl (.tmp 13) (.tmp 15) 60 3 (.int .i64 0) 8 rfl Tryd.underlying60 info3 rfl (by decide) (by omega) u3 x3_1 t289 [.int .i64 t289] (fun _ => True) (fun _ => False) rfl rfl ?aP (fun _ hk => hk.elim) ?aF ?aO ?aB ?aS ?aL ?_; (case aP => exact rfl); (case aB => exact (lb2q7 HB.out GE284.out GE288.out)); (case aF => exact (fun _ _ => trivial)); (case aO => exact (krq7 HO_3.out)); (case aS => exact (below_size (lb2q7 HB.out GE284.out GE288.out))); (case aL => have := LMc11.out; omega); intro v291 w15 ho hb hg hat; rw [← Ny290.out] at ho; have n0_ := Aside0.mk (blk_grown (g := gb284) (o := .cells #[.int .i64 a0_0, .int .i64 a0_1] 24 (0, 0)) (kbq7 BK284.out) hg (Kd.R_ne HO_3.out BK284.out (by decide))); have n1_ := Aside0.mk (blk_grown (g := gb288) (o := .cells #[.int .i64 x289000_1, .int .i64 x289001_1] 24 (0, 0)) (kbq7 BK288.out) hg (Kd.R_ne HO_3.out BK288.out (by decide))); have n2_ := Aside0.mk (hb); have n3_ := Aside0.mk (ho); clear BK284; clear BK288; clear HB; clear HO_3; have BK284 := n0_; have BK288 := n1_; have HB := n2_; have HO292 := n3_; clear n0_ n1_ n2_ n3_; clear ho hb hg hat; have hcz16_0 : w15.cell? ⟨gb288, 0, none⟩ = some (.int .i64 x289000_1) := (blk_cell BK288.out 0).trans rfl; have hcz16_1 : w15.cell? ⟨gb288, 1, none⟩ = some (.int .i64 x289001_1) := (blk_cell BK288.out 1).trans rfl; have hfz16_0 := blk_frozen BK288.out 0; have hfz16_1 := blk_frozen BK288.out 1))
     go_roundg k1
     case measure => have := HK1.out; omega
     case rel => exact ⟨(y290), (x289001_1), (wrap64 ((wrap64 (t289 * x289001_1)) - x289000_1)), H', ⟨by have := HK1.out; omega⟩, ⟨by (with_reducible repeat (first | apply Kd.R_alloc | apply Kd.R_drewN | apply Kd.R_drew)); exact Kd.R_mono (Kd.R_far (p := ⟨gb288, 1, none⟩) (Kd.R_far (p := ⟨gb288, 0, none⟩) (Kd.R_types HO292.out BK288.out (by decide)) (fun _ hk => hk.2) (.int .i64 x289001_1)) (fun _ hk => hk.2) (.int .i64 (wrap64 ((wrap64 (t289 * x289001_1)) - x289000_1)))) (fun _ hk => trivial)⟩, ⟨kf1q7 BK284.out NB284_288.out⟩, ⟨by (with_reducible repeat (first | refine blk_drewN ?_ _ | refine blk_drew ?_ | refine blk_alloc ?_ _)); refine blk_put (cs := #[.int .i64 x289001_1, .int .i64 x289001_1]) ?_ 1 _ rfl; (with_reducible repeat (first | refine blk_drewN ?_ _ | refine blk_drew ?_ | refine blk_alloc ?_ _)); refine blk_put (cs := #[.int .i64 x289000_1, .int .i64 x289001_1]) ?_ 0 _ rfl; (with_reducible repeat (first | refine blk_drewN ?_ _ | refine blk_drew ?_ | refine blk_alloc ?_ _)); exact BK288.out⟩, ⟨lb2q7 HB.out GE284.out GE288.out⟩⟩
    ·
     rw [if_neg c11] at H
     exact absurd H (by simp)
   ·
    rw [if_neg c9] at H
    have c9b0 : decide (0 < x289001_1) = false := decide_eq_false c9
    clear c9
    obtain rfl := Option.some.inj H
    have hnb17 := NB288_284.out
    have hnc17 := NB284_288.out
    have hcz18_0 : wr.cell? ⟨gb288, 0, none⟩ = some (.int .i64 x289000_1) := (blk_cell BK288.out 0).trans rfl
    have hcz18_1 : wr.cell? ⟨gb288, 1, none⟩ = some (.int .i64 x289001_1) := (blk_cell BK288.out 1).trans rfl
    have hfz18_0 := blk_frozen BK288.out 0
    have hfz18_1 := blk_frozen BK288.out 1
    go_wp2
    go_ret
    exact ⟨_, by first | rfl | (simp [errW_none, errW_some] <;> rfl) | (simp [*, errW_none, errW_some] <;> rfl), by (with_reducible repeat (first | apply Kd.R_alloc | apply Kd.R_drewN | apply Kd.R_drew)); exact HO_3.out, by repeat (first | (with_reducible first | exact HB.out | apply below_alloc | apply pw_below_drewN | apply below_drew1 | refine below_set ?_ GE284.out | refine below_set ?_ GE288.out) | exact HB.out)⟩

end Go.Proofs.YtebihngdlokhfaaDoor.PFnNormalOf
