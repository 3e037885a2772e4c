/- What the walked law FnExactShortenedOf computes, answers true. -/
import Derived.Test.YtpjiimlcdifneaaDoorPFnExactShortenedOfx2
import Derived.OpenShut
namespace Go.Proofs.YtpjiimlcdifneaaDoor.Pure
open Go.RowKit Go.Proofs.YtpjiimlcdifneaaDoor.PFnExactShortenedOf Go.Proofs.YtpjiimlcdifneaaDoorW.PrintWords Go.Proofs.YtpjiimlcdifneaaDoorW.PrintLast Go.Proofs.YtpjiimlcdifneaaDoorW.PrintMore
set_option linter.unusedVariables false
set_option linter.unusedSimpArgs false
theorem st {P : Prop} [Decidable P] (h : P) : some true = some (decide P) := by simp [h]
theorem sf {P : Prop} [Decidable P] (h : ¬P) : some false = some (decide P) := by simp [h]
theorem sd {P Q : Prop} [Decidable P] [Decidable Q] (h : P ↔ Q) : some (decide P) = some (decide Q) := by simp [h]
theorem w64 {n : Int} (h : -9223372036854775808 ≤ n ∧ n ≤ 9223372036854775807) : wrap64 n = n := by unfold wrap64; omega
def ofL (l : List UInt8) : ByteArray := ⟨l.toArray⟩
theorem ofL_size (l : List UInt8) : (ofL l).size = l.length := by simp [ofL, ByteArray.size]
theorem ofL_app (l m : List UInt8) : ofL l ++ ofL m = ofL (l ++ m) := by
  apply ByteArray.ext; simp [ofL]
theorem ofL_data (l : List UInt8) : (ofL l).data.toList = l := by simp [ofL]
theorem bt_get (s : ByteArray) (i : Int) (h0 : 0 ≤ i) (h : i.toNat < s.size) : bt s i = (s.data.toList[i.toNat]'(by simpa using h)).toNat := by
  unfold bt
  rw [dif_pos h]
  rfl
theorem rd_eq (xs : List Int) (i : Int) (h0 : 0 ≤ i) (h : i.toNat < xs.length) : rd xs i = xs[i.toNat] := by unfold rd; simp [h]
def mv (c : UInt8) : Bool := c == 84 || c == 116 || c == 82
def dok (l : List UInt8) : Bool := l.all mv
theorem mv_iff (c : UInt8) : mv c = true ↔ ((c.toNat : Int) = 84 ∨ (c.toNat : Int) = 116 ∨ (c.toNat : Int) = 82) := by
  unfold mv
  simp only [Bool.or_eq_true, beq_iff_eq]
  have e1 : (84 : UInt8).toNat = 84 := rfl
  have e2 : (116 : UInt8).toNat = 116 := rfl
  have e3 : (82 : UInt8).toNat = 82 := rfl
  rw [← UInt8.toNat_inj, ← UInt8.toNat_inj, ← UInt8.toNat_inj, e1, e2, e3]
  omega
def Dn (s : ByteArray) : Prop := dok s.data.toList = true ∧ s.size ≤ 40
instance (s : ByteArray) : Decidable (Dn s) := by unfold Dn; exact inferInstance
def bk (c : UInt8) : UInt8 := if c = 84 then 116 else if c = 116 then 84 else 82
def backL (l : List UInt8) : List UInt8 := (l.reverse).map bk
theorem u8_eq (c : UInt8) (n : Nat) (hn : n < 256) : ((c.toNat : Int) = (n : Int)) ↔ c = UInt8.ofNat n := by
  constructor
  · intro h
    have : c.toNat = n := by omega
    rw [← UInt8.toNat_inj, this]
    simp
    omega
  · intro h
    rw [h]
    simp
    omega
theorem backL_take (s : List UInt8) (n : Nat) (h : n < s.length) : backL (s.take (n + 1)) = bk s[n] :: backL (s.take n) := by
  unfold backL
  rw [List.take_succ_eq_append_getElem h, List.reverse_append]
  simp
theorem spec_DanceOk_l0 (s : ByteArray) (hn : s.size ≤ 1000000000) (d : Nat) : ∀ (k : Nat) (i : Int), 0 ≤ i → i + d = s.size → d < k → spec_DanceOk.l0 k s i = some (decide (dok (s.data.toList.drop i.toNat) = true ∧ s.size ≤ 40)) := by
  have hsz : s.data.toList.length = s.size := by simp
  induction d with
  | zero =>
    intro k i h0 hd hk
    obtain ⟨k, rfl⟩ : ∃ m, k = m + 1 := ⟨k - 1, by omega⟩
    simp only [spec_DanceOk.l0]
    rw [if_neg (by omega), List.drop_eq_nil_of_le (by omega)]
    exact sd ⟨fun x => ⟨rfl, by omega⟩, fun x => by omega⟩
  | succ d ih =>
    intro k i h0 hd hk
    obtain ⟨k, rfl⟩ : ∃ m, k = m + 1 := ⟨k - 1, by omega⟩
    simp only [spec_DanceOk.l0]
    have h1 : i.toNat < s.size := by omega
    have h2 : i.toNat < s.data.toList.length := by omega
    rw [if_pos (by omega), if_pos h0, w64 (by omega), ih k (i + 1) (by omega) (by omega) (by omega)]
    have e : (i + 1).toNat = i.toNat + 1 := by omega
    rw [e, bt_get s i h0 h1, List.drop_eq_getElem_cons h2]
    generalize s.data.toList[i.toNat] = c
    have hm := mv_iff c
    have hc : dok (c :: List.drop (i.toNat + 1) s.data.toList) = (mv c && dok (List.drop (i.toNat + 1) s.data.toList)) := rfl
    rw [hc]
    by_cases c1 : (c.toNat : Int) = 84
    · rw [if_pos c1]; have : mv c = true := hm.2 (Or.inl c1); rw [this, Bool.true_and]
    · rw [if_neg c1]
      by_cases c2 : (c.toNat : Int) = 116
      · rw [if_pos c2]; have : mv c = true := hm.2 (Or.inr (Or.inl c2)); rw [this, Bool.true_and]
      · rw [if_neg c2]
        by_cases c3 : (c.toNat : Int) = 82
        · rw [if_pos c3]; have : mv c = true := hm.2 (Or.inr (Or.inr c3)); rw [this, Bool.true_and]
        · rw [if_neg c3]
          have : mv c = false := by
            rcases Bool.eq_false_or_eq_true (mv c) with h | h
            · have := hm.1 h; omega
            · exact h
          rw [this, Bool.false_and]
          exact sf (by simp)
theorem spec_DanceOk_ev (k : Nat) (s : ByteArray) (hk : s.size < k) (hn : s.size ≤ 1000000000) : spec_DanceOk.f k s = some (decide (Dn s)) := by
  unfold spec_DanceOk.f
  rw [spec_DanceOk_l0 s hn s.size k 0 (by omega) (by omega) hk]
  rfl
theorem spec_BackOf_l0 (s : ByteArray) (hD : Dn s) (n : Nat) : ∀ (k : Nat) (l : List UInt8), 2 * n + 60 ≤ k → n ≤ s.size → l.length + n ≤ 1000 → spec_BackOf.l0 k s (ofL l) ((n : Int) - 1) = some (ofL (l ++ backL (s.data.toList.take n))) := by
  have hsz : s.data.toList.length = s.size := by simp
  have h40 := hD.2
  induction n with
  | zero =>
    intro k l hk hn hl
    obtain ⟨k, rfl⟩ : ∃ m, k = m + 2 := ⟨k - 2, by omega⟩
    simp only [spec_BackOf.l0, spec_BackOf.j1]
    rw [if_neg (by omega), if_neg (by simp)]
    simp [backL]
  | succ n ih =>
    intro k l hk hn hl
    obtain ⟨k, rfl⟩ : ∃ m, k = m + 2 := ⟨k - 2, by omega⟩
    simp only [spec_BackOf.l0]
    have e : ((n + 1 : Nat) : Int) - 1 = (n : Int) := by omega
    rw [e, if_pos (by omega), spec_DanceOk_ev (k + 1) s (by omega) (by omega), decide_eq_true hD]
    simp only [Option.bind_some, spec_BackOf.j1]
    have hn1 : n < s.data.toList.length := by omega
    have hb := bt_get s (n : Int) (by omega) (by omega)
    have hb' : bt s (n : Int) = (s.data.toList[n].toNat : Int) := hb
    have hs := ofL_size l
    rw [if_pos trivial, if_pos (by omega), if_pos (by omega), hb', w64 (by omega), backL_take _ _ hn1]
    generalize s.data.toList[n] = c
    have q1 := u8_eq c 84 (by omega)
    have q2 := u8_eq c 116 (by omega)
    have a1 : ofL l ++ (⟨#[116]⟩ : ByteArray) = ofL (l ++ [116]) := ofL_app l [116]
    have a2 : ofL l ++ (⟨#[84]⟩ : ByteArray) = ofL (l ++ [84]) := ofL_app l [84]
    have a3 : ofL l ++ (⟨#[82]⟩ : ByteArray) = ofL (l ++ [82]) := ofL_app l [82]
    have q1' : ((c.toNat : Int) = 84) ↔ c = 84 := q1
    have q2' : ((c.toNat : Int) = 116) ↔ c = 116 := q2
    by_cases c1 : (c.toNat : Int) = 84
    · have : bk c = 116 := by unfold bk; rw [if_pos (q1'.1 c1)]
      rw [if_pos c1, if_pos (by omega), a1, ih k _ (by omega) (by omega) (by simp; omega), this]
      simp
    · rw [if_neg c1]
      have m1 : ¬ c = 84 := fun x => c1 (q1'.2 x)
      by_cases c2 : (c.toNat : Int) = 116
      · have : bk c = 84 := by unfold bk; rw [if_neg m1, if_pos (q2'.1 c2)]
        rw [if_pos c2, if_pos (by omega), a2, ih k _ (by omega) (by omega) (by simp; omega), this]
        simp
      · have m2 : ¬ c = 116 := fun x => c2 (q2'.2 x)
        have : bk c = 82 := by unfold bk; rw [if_neg m1, if_neg m2]
        rw [if_neg c2, if_pos (by omega), a3, ih k _ (by omega) (by omega) (by simp; omega), this]
        simp
theorem spec_BackOf_ev (k : Nat) (s : ByteArray) (hk : s.size + 200 ≤ k) (hn : s.size ≤ 1000000000) : spec_BackOf.f k s = some (if Dn s then ofL (backL s.data.toList) else ofL []) := by
  unfold spec_BackOf.f
  have e0 : (⟨#[]⟩ : ByteArray) = ofL [] := rfl
  have hsz : s.data.toList.length = s.size := by simp
  rw [e0, w64 (by omega)]
  by_cases h : Dn s
  · rw [if_pos h, spec_BackOf_l0 s h s.size k [] (by have := h.2; omega) (by omega) (by have := h.2; simp; omega), List.take_of_length_le (by omega)]
    simp
  · rw [if_neg h]
    obtain ⟨k, rfl⟩ : ∃ m, k = m + 2 := ⟨k - 2, by omega⟩
    simp only [spec_BackOf.l0]
    by_cases h0 : (s.size : Int) - 1 ≥ 0
    · rw [if_pos h0, spec_DanceOk_ev (k + 1) s (by omega) (by omega), decide_eq_false h]
      simp only [Option.bind_some, spec_BackOf.j1]
      rw [if_neg (by simp)]
    · rw [if_neg h0]
      simp only [spec_BackOf.j1]
      rw [if_neg (by simp)]
def shS : List UInt8 → List UInt8 → List UInt8
  | st, [] => st.reverse
  | [], c :: l => shS [c] l
  | s :: st, c :: l => if s = bk c then shS st l else shS (c :: s :: st) l
theorem ofL_toList (l : List UInt8) : (ofL l).toList = l := by rw [ByteArray.toList_eq, ofL_data]
theorem bt_ofL (l : List UInt8) (i : Nat) (h : i < l.length) : bt (ofL l) (i : Int) = ((l[i]).toNat : Int) := by
  have e := bt_get (ofL l) (i : Int) (by omega) (by rw [ofL_size]; omega)
  rw [e]
  simp [ofL]
theorem ext_one (s : ByteArray) (i : Nat) (h : i < s.data.toList.length) : s.extract i (i + 1) = ofL [s.data.toList[i]] := by
  have hsz : s.data.toList.length = s.size := by simp
  apply ByteArray.ext
  simp [ofL]
  apply Array.ext
  · simp
    have e : s.data.size = s.size := rfl
    omega
  · intro j h1 h2
    simp at h2
    simp [h2]
theorem impl_areMoves_ev (s : ByteArray) (hn : s.size ≤ 1000000000) : impl_areMoves.f s = some (dok s.data.toList) := by
  unfold impl_areMoves.f; rw [if_pos (by omega)]; rfl
theorem impl_isDance_ev (s : ByteArray) : impl_isDance.f s = some (decide (Dn s)) := by
  unfold impl_isDance.f
  by_cases h : (s.size : Int) ≤ 40
  · rw [if_pos h, impl_areMoves_ev s (by omega)]
    show some (dok s.data.toList) = _
    congr 1
    by_cases hd : dok s.data.toList = true
    · rw [hd, decide_eq_true (show Dn s from ⟨hd, by omega⟩)]
    · rw [decide_eq_false (show ¬ Dn s from fun x => hd x.1)]; simpa using hd
  · rw [if_neg h, decide_eq_false (fun x => h (by have := x.2; omega))]
theorem impl_backMove_ev (c : UInt8) : impl_backMove.f (c.toNat : Int) = some (ofL [bk c]) := by
  have q1' : ((c.toNat : Int) = 84) ↔ c = 84 := u8_eq c 84 (by omega)
  have q2' : ((c.toNat : Int) = 116) ↔ c = 116 := u8_eq c 116 (by omega)
  unfold impl_backMove.f bk
  by_cases c1 : c = 84
  · rw [if_pos (q1'.2 c1), if_pos c1]; rfl
  · rw [if_neg (fun x => c1 (q1'.1 x)), if_neg c1]
    by_cases c2 : c = 116
    · rw [if_pos (q2'.2 c2), if_pos c2]; rfl
    · rw [if_neg (fun x => c2 (q2'.1 x)), if_neg c2]; rfl
def numsL (l : List UInt8) : List Int := l.map fun c => (c.toNat : Int)
theorem numsL_len (l : List UInt8) : (numsL l).length = l.length := by simp [numsL]
theorem str_numsL (l : List UInt8) : strOfNums (numsL l) = ofL l := by
  unfold strOfNums numsL ofL
  congr 1
  have e : ((fun n : Int => UInt8.ofNat n.toNat) ∘ fun c : UInt8 => (c.toNat : Int)) = id := by funext c; simp
  rw [List.map_map, e, List.map_id]
theorem rd_numsL (l : List UInt8) (c : UInt8) : rd (numsL (l ++ [c])) (l.length : Int) = (c.toNat : Int) := by
  rw [rd_eq _ _ (by omega) (by rw [numsL_len]; simp)]
  simp [numsL]
theorem u8_inj (a b : UInt8) : ((a.toNat : Int) = (b.toNat : Int)) ↔ a = b := by
  rw [← UInt8.toNat_inj]; omega
theorem spec_ShortenedOf_l0 (s : ByteArray) (hD : Dn s) (d : Nat) : ∀ (k : Nat) (st : List UInt8) (i : Nat), 2 * d + 300 ≤ k → i + d = s.size → st.length ≤ i → spec_ShortenedOf.l0 k s (numsL st.reverse) (i : Int) = some (ofL (shS st (s.data.toList.drop i))) := by
  have hsz : s.data.toList.length = s.size := by simp
  have h40 := hD.2
  induction d with
  | zero =>
    intro k st i hk hd hl
    obtain ⟨k, rfl⟩ : ∃ m, k = m + 2 := ⟨k - 2, by omega⟩
    simp only [spec_ShortenedOf.l0, spec_ShortenedOf.j1]
    rw [if_neg (by omega), if_neg (by simp), str_numsL, List.drop_eq_nil_of_le (by omega), shS]
  | succ d ih =>
    intro k st i hk hd hl
    obtain ⟨k, rfl⟩ : ∃ m, k = m + 2 := ⟨k - 2, by omega⟩
    have hi : i < s.data.toList.length := by omega
    have hb' : bt s (i : Int) = (s.data.toList[i].toNat : Int) := bt_get s (i : Int) (by omega) (by omega)
    have hx := ext_one s i hi
    have hmc : mv s.data.toList[i] = true := List.all_eq_true.1 hD.1 _ (List.getElem_mem hi)
    have e1 : ((i : Int) + 1) = ((i + 1 : Nat) : Int) := by omega
    simp only [spec_ShortenedOf.l0]
    rw [if_pos (by omega), spec_DanceOk_ev (k + 1) s (by omega) (by omega), decide_eq_true hD]
    rw [Option.bind_some]
    rw [spec_ShortenedOf.j1]
    rw [if_pos rfl, if_pos (by omega), w64 (by omega), if_pos (by omega), if_pos (by omega), e1, Int.toNat_natCast, Int.toNat_natCast, hx, hb', List.drop_eq_getElem_cons hi]
    generalize s.data.toList[i] = c at hmc
    have hDc : Dn (ofL [c]) := ⟨by rw [ofL_data]; simp [dok, hmc], by rw [ofL_size]; simp⟩
    have hs1 : (ofL [c]).size = 1 := by rw [ofL_size]; rfl
    rw [spec_BackOf_ev k _ (by omega) (by omega), if_pos hDc, ofL_data]
    rw [Option.bind_some]
    have hbl : backL [c] = [bk c] := rfl
    have hbb : bt (ofL [bk c]) 0 = ((bk c).toNat : Int) := bt_ofL [bk c] 0 (by simp)
    have hap : ∀ l : List UInt8, numsL l ++ [(c.toNat : Int)] = numsL (l ++ [c]) := by intro l; simp [numsL]
    have hlen := numsL_len st.reverse
    simp only [List.length_reverse] at hlen
    rw [hbl, hbb, ofL_size, hlen]
    cases st with
    | nil =>
      rw [if_neg (by simp), if_pos (by omega), if_pos (by simp only [List.length_nil]; omega), hap, shS]
      exact ih k [c] (i + 1) (by omega) (by omega) (by simp)
    | cons t st =>
      have hl' : st.length + 1 ≤ i := by simpa using hl
      have er : (t :: st).reverse = st.reverse ++ [t] := by simp
      have el : (((t :: st).length : Nat) : Int) - 1 = (st.reverse.length : Int) := by simp
      have ec : ((t :: st).length : Int) = (st.reverse.length : Int) + 1 := by simp
      have ec' : (t :: st).length = st.length + 1 := rfl
      rw [ec, if_pos (by omega)]
      have e2 : ((st.reverse.length : Int) + 1 - 1) = (st.reverse.length : Int) := by omega
      have hr : st.reverse.length = st.length := by simp
      rw [e2, w64 (by omega), if_pos (by omega), if_pos (by omega), if_pos (by simp), er, rd_numsL]
      have hu := u8_inj t (bk c)
      by_cases h : t = bk c
      · rw [if_pos (hu.2 h), if_pos (by omega), Int.toNat_natCast]
        have et : (numsL (st.reverse ++ [t])).take st.reverse.length = numsL st.reverse := by simp [numsL]
        rw [et, ih k st (i + 1) (by omega) (by omega) (by omega)]
        simp only [shS]
        rw [if_pos h]
      · rw [if_neg (fun x => h (hu.1 x)), if_pos (by omega), if_pos (by rw [ec']; omega), hap]
        have e3 : st.reverse ++ [t] ++ [c] = (c :: t :: st).reverse := by simp
        rw [e3, ih k (c :: t :: st) (i + 1) (by omega) (by omega) (by simp; omega)]
        simp only [shS]
        rw [if_neg h]
theorem spec_ShortenedOf_ev (k : Nat) (s : ByteArray) (hk : s.size + 500 ≤ k) (hn : s.size ≤ 1000000000) : spec_ShortenedOf.f k s = some (if Dn s then ofL (shS [] s.data.toList) else ofL []) := by
  unfold spec_ShortenedOf.f
  by_cases h : Dn s
  · rw [if_pos h]
    have := spec_ShortenedOf_l0 s h s.size k [] 0 (by have := h.2; omega) (by omega) (by simp)
    exact this
  · rw [if_neg h]
    obtain ⟨k, rfl⟩ : ∃ m, k = m + 2 := ⟨k - 2, by omega⟩
    simp only [spec_ShortenedOf.l0]
    by_cases h0 : (0 : Int) < (s.size : Int)
    · rw [if_pos h0, spec_DanceOk_ev (k + 1) s (by omega) (by omega), decide_eq_false h]
      rw [Option.bind_some, spec_ShortenedOf.j1]
      rw [if_neg (by simp)]
      rfl
    · rw [if_neg h0]
      simp only [spec_ShortenedOf.j1]
      rw [if_neg (by simp)]
      rfl
theorem ofL_one_inj (a b : UInt8) : (ofL [a]).toList = (ofL [b]).toList ↔ a = b := by rw [ofL_toList, ofL_toList]; simp
theorem ext_last (l : List UInt8) (t : UInt8) : (ofL (l ++ [t])).extract l.length (l.length + 1) = ofL [t] := by
  have := ext_one (ofL (l ++ [t])) l.length (by rw [ofL_data]; simp)
  rw [this]
  congr 1
  simp [ofL]
theorem ext_init (l : List UInt8) (t : UInt8) : (ofL (l ++ [t])).extract 0 l.length = ofL l := by
  apply ByteArray.ext
  simp [ofL]
theorem impl_ShortenedOf_l0 (s : ByteArray) (hD : Dn s) (d : Nat) : ∀ (k : Nat) (st : List UInt8) (i : Nat), d < k → i + d = s.size → st.length ≤ i → impl_ShortenedOf.l0 k s (ofL st.reverse) (s.size : Int) (i : Int) = some (ofL (shS st (s.data.toList.drop i))) := by
  have hsz : s.data.toList.length = s.size := by simp
  have h40 := hD.2
  induction d with
  | zero =>
    intro k st i hk hd hl
    obtain ⟨k, rfl⟩ : ∃ m, k = m + 1 := ⟨k - 1, by omega⟩
    simp only [impl_ShortenedOf.l0]
    rw [if_neg (by omega), List.drop_eq_nil_of_le (by omega), shS]
  | succ d ih =>
    intro k st i hk hd hl
    obtain ⟨k, rfl⟩ : ∃ m, k = m + 1 := ⟨k - 1, by omega⟩
    have hi : i < s.data.toList.length := by omega
    have hb' : bt s (i : Int) = (s.data.toList[i].toNat : Int) := bt_get s (i : Int) (by omega) (by omega)
    have hx := ext_one s i hi
    have e1 : ((i : Int) + 1) = ((i + 1 : Nat) : Int) := by omega
    simp only [impl_ShortenedOf.l0]
    rw [if_pos (by omega), w64 (by omega), e1]
    simp only [Int.toNat_natCast]
    rw [hx, hb', List.drop_eq_getElem_cons hi, impl_backMove_ev]
    generalize s.data.toList[i] = c
    simp only [Option.bind_some]
    cases st with
    | nil =>
      rw [if_pos (by rw [ofL_toList]; rfl), if_pos (by omega), if_pos (by omega), if_pos (by omega), if_pos (by rw [ofL_size, ofL_size]; simp), ofL_app, shS]
      exact ih k [c] (i + 1) (by omega) (by omega) (by simp)
    | cons t st =>
      have hl' : st.length + 1 ≤ i := by simpa using hl
      have er : (t :: st).reverse = st.reverse ++ [t] := by simp
      have hr : st.reverse.length = st.length := by simp
      rw [er, if_neg (by rw [ofL_toList]; simp), ofL_size]
      have e2 : (((st.reverse ++ [t]).length : Nat) : Int) - 1 = (st.reverse.length : Int) := by simp
      have e3 : (st.reverse ++ [t]).length = st.reverse.length + 1 := by simp
      rw [e2, w64 (by omega), if_pos (by omega), if_pos (by omega), if_pos (by omega), if_pos (by omega), Int.toNat_natCast, e3, ext_last, ext_init]
      by_cases h : t = bk c
      · rw [if_pos ((ofL_one_inj _ _).2 h), ih k st (i + 1) (by omega) (by omega) (by omega)]
        simp only [shS]
        rw [if_pos h]
      · rw [if_neg (fun x => h ((ofL_one_inj _ _).1 x)), if_pos (by omega), if_pos (by omega), if_pos (by rw [ofL_size]; simp; omega), ofL_app]
        have e4 : st.reverse ++ [t] ++ [c] = (c :: t :: st).reverse := by simp
        rw [e4, ih k (c :: t :: st) (i + 1) (by omega) (by omega) (by simp; omega)]
        simp only [shS]
        rw [if_neg h]
theorem impl_ShortenedOf_ev (k : Nat) (s : ByteArray) (hk : 60 ≤ k) : impl_ShortenedOf.f k s = some (if Dn s then ofL (shS [] s.data.toList) else ofL []) := by
  have e0 : (⟨#[]⟩ : ByteArray) = ofL [] := rfl
  unfold impl_ShortenedOf.f
  rw [impl_isDance_ev]
  simp only [Option.bind_some, decide_eq_true_eq]
  by_cases h : Dn s
  · rw [if_pos h, if_pos h]
    exact impl_ShortenedOf_l0 s h s.size k [] 0 (by have := h.2; omega) (by omega) (by simp)
  · rw [if_neg h, if_neg h]; rfl
theorem FnExactShortenedOf (a : ByteArray) : ∃ k, laws_FnExactShortenedOf.f k a = some true := by
  refine ⟨1049900, ?_⟩
  unfold laws_FnExactShortenedOf.f
  by_cases h : (a.size : Int) > 1048576
  · rw [if_pos h]
  · rw [if_neg h, spec_ShortenedOf_ev _ a (by omega) (by omega), impl_ShortenedOf_ev _ a (by omega)]
    simp
end Go.Proofs.YtpjiimlcdifneaaDoor.Pure
