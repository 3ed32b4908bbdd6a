/- FnExactRhythmModes: for every list of beats the program's RhythmModes returns the reference's modes, leaves its argument alone, and returns memory of its own. No condition beyond the statement's own. -/
import Derived.Test.YtdddnfbedckgkaaPFnExactRhythmModesx4
namespace Go.Proofs.Ytdddnfbedckgkaa.PureExactRhythmModes
open Go.RowKit Go.Proofs.Ytdddnfbedckgkaa.PFnExactRhythmModes Go.Proofs.YtdddnfbedckgkaaW.PrintWords Go.Proofs.YtdddnfbedckgkaaW.PrintLast
set_option linter.unusedSimpArgs false
set_option linter.unusedVariables false
theorem w1 {i : Nat} (h : i < 4611686018427387904) : wrap64 ((i : Int) + 1) = ((i + 1 : Nat) : Int) := by
  unfold wrap64
  omega
theorem w0 {i : Int} (h : -9223372036854775808 ≤ i) (h' : i ≤ 9223372036854775807) : wrap64 i = i := by
  unfold wrap64
  omega
theorem rd_at (xs : List Int) (i : Nat) (h : i < xs.length) : rd xs (i : Int) = xs[i] := by
  simp [rd, List.getD_eq_getElem?_getD, h]
theorem impl_equalNumbers_l0 (xs ys : List Int) (hl : xs.length = ys.length) (hb : xs.length < 4611686018427387904) : ∀ (d i k : Nat), i + d = xs.length → d < k → impl_equalNumbers.l0 k ys xs (xs.length : Int) (i : Int) = some (decide (xs.drop i = ys.drop i)) := by
  intro d
  induction d with
  | zero =>
    intro i k hi hk
    obtain ⟨k, rfl⟩ : ∃ m, k = m + 1 := ⟨k - 1, by omega⟩
    simp only [impl_equalNumbers.l0]
    rw [if_neg (by omega), List.drop_eq_nil_of_le (by omega), List.drop_eq_nil_of_le (by omega)]
    rfl
  | succ d ih =>
    intro i k hi hk
    obtain ⟨k, rfl⟩ : ∃ m, k = m + 1 := ⟨k - 1, by omega⟩
    have hx : i < xs.length := by omega
    have hy : i < ys.length := by omega
    simp only [impl_equalNumbers.l0]
    rw [if_pos (by omega), if_pos (by omega), if_pos (by omega), if_pos (by omega), rd_at xs i hx, rd_at ys i hy, List.drop_eq_getElem_cons hx, List.drop_eq_getElem_cons hy]
    by_cases e : xs[i] = ys[i]
    · rw [if_pos e, w1 (by omega), ih (i + 1) k (by omega) (by omega)]
      simp only [List.cons.injEq, e, true_and]
    · rw [if_neg e]
      simp only [List.cons.injEq, e, false_and, decide_false]
theorem impl_equalNumbers_f (xs ys : List Int) (k : Nat) (hb : xs.length < 4611686018427387904) (hk : xs.length < k) : impl_equalNumbers.f k xs ys = some (decide (xs = ys)) := by
  unfold impl_equalNumbers.f
  by_cases hl : xs.length = ys.length
  · rw [if_pos (by omega)]
    simpa using impl_equalNumbers_l0 xs ys hl hb xs.length 0 k (by omega) (by omega)
  · rw [if_neg (by omega), decide_eq_false (fun e => hl (by rw [e]))]
theorem spec_l2Same_l0 (xs ys : List Int) (hl : xs.length = ys.length) (hb : xs.length < 4611686018427387904) : ∀ (d i k : Nat), i + d = xs.length → d < k → spec_l2Same.l0 k xs ys (i : Int) = some (decide (xs.drop i = ys.drop i)) := by
  intro d
  induction d with
  | zero =>
    intro i k hi hk
    obtain ⟨k, rfl⟩ : ∃ m, k = m + 1 := ⟨k - 1, by omega⟩
    simp only [spec_l2Same.l0]
    rw [if_neg (by omega), List.drop_eq_nil_of_le (by omega), List.drop_eq_nil_of_le (by omega)]
    rfl
  | succ d ih =>
    intro i k hi hk
    obtain ⟨k, rfl⟩ : ∃ m, k = m + 1 := ⟨k - 1, by omega⟩
    have hx : i < xs.length := by omega
    have hy : i < ys.length := by omega
    simp only [spec_l2Same.l0]
    rw [if_pos (by omega), if_pos (by omega), if_pos (by omega), rd_at xs i hx, rd_at ys i hy, List.drop_eq_getElem_cons hx, List.drop_eq_getElem_cons hy]
    by_cases e : xs[i] = ys[i]
    · rw [if_pos e, w1 (by omega), ih (i + 1) k (by omega) (by omega)]
      simp only [List.cons.injEq, e, true_and]
    · rw [if_neg e]
      simp only [List.cons.injEq, e, false_and, decide_false]
theorem spec_l2Same_f (xs ys : List Int) (k : Nat) (hb : xs.length < 4611686018427387904) (hk : xs.length < k) : spec_l2Same.f k xs ys = some (decide (xs = ys)) := by
  unfold spec_l2Same.f
  by_cases hl : xs.length = ys.length
  · rw [if_pos (by omega)]
    simpa using spec_l2Same_l0 xs ys hl hb xs.length 0 k (by omega) (by omega)
  · rw [if_neg (by omega), decide_eq_false (fun e => hl (by rw [e]))]
theorem foot_none (a : Int) (h : a < 1 ∨ 6 < a) : impl_RhythmFoot.f a = some [] ∧ spec_RhythmFoot.f a = some [] := by
  constructor
  · unfold impl_RhythmFoot.f
    rw [if_neg (by omega), if_neg (by omega), if_neg (by omega), if_neg (by omega), if_neg (by omega), if_neg (by omega)]
  · unfold spec_RhythmFoot.f spec_l6In.f
    by_cases h1 : a ≥ 1
    · rw [if_pos h1, decide_eq_false (by omega)]; rfl
    · rw [if_neg h1]; rfl
theorem foot_some (a : Int) (h : ¬ (a < 1 ∨ 6 < a)) : a = 1 ∨ a = 2 ∨ a = 3 ∨ a = 4 ∨ a = 5 ∨ a = 6 := by omega
theorem twelve (n : Int) (h : ¬ (n < 1 ∨ 12 < n)) : n = 1 ∨ n = 2 ∨ n = 3 ∨ n = 4 ∨ n = 5 ∨ n = 6 ∨ n = 7 ∨ n = 8 ∨ n = 9 ∨ n = 10 ∨ n = 11 ∨ n = 12 := by omega
theorem ordo_none (k : Nat) (a n : Int) (h : (a < 1 ∨ 6 < a) ∨ (n < 1 ∨ 12 < n)) : impl_RhythmOrdo.f (k + 1) a n = some ([], 0, false) ∧ spec_RhythmOrdo.f (k + 1) a n = some ([], 0, false) := by
  by_cases h1 : a < 1 ∨ 6 < a
  · obtain ⟨e1, e2⟩ := foot_none a h1
    constructor
    · unfold impl_RhythmOrdo.f
      rw [e1]; rfl
    · unfold spec_RhythmOrdo.f
      rw [e2]; rfl
  · have h2 : n < 1 ∨ 12 < n := h.resolve_left h1
    have e3 : (decide (n > 12)) = true ∨ n < 1 := by
      rcases h2 with h2 | h2
      · exact .inr h2
      · exact .inl (decide_eq_true h2)
    have e4 : spec_l6In.f n 1 12 = some false := by
      unfold spec_l6In.f
      by_cases h1 : n ≥ 1
      · rw [if_pos h1, decide_eq_false (by omega)]
      · rw [if_neg h1]
    constructor
    · unfold impl_RhythmOrdo.f
      rcases foot_some a h1 with rfl | rfl | rfl | rfl | rfl | rfl <;> (rcases e3 with e | e <;> simp [impl_RhythmFoot.f, e, impl_RhythmOrdo.j0])
    · unfold spec_RhythmOrdo.f
      rw [e4]
      rcases foot_some a h1 with rfl | rfl | rfl | rfl | rfl | rfl <;> simp [spec_RhythmFoot.f, spec_l6In.f, rd_L1, wrap64, spec_RhythmOrdo.j0]

def ord (a n : Int) : List Int × Int × Bool := (impl_RhythmOrdo.f 40 a n).getD ([], 0, false)
theorem ordo_all (a n : Int) : impl_RhythmOrdo.f 40 a n = some (ord a n) ∧ spec_RhythmOrdo.f 40 a n = some (ord a n) ∧ (ord a n).1.length ≤ 12 := by
  unfold ord
  by_cases h : (a < 1 ∨ 6 < a) ∨ (n < 1 ∨ 12 < n)
  · obtain ⟨h1, h2⟩ := ordo_none 39 a n h
    rw [h1, h2]
    exact ⟨rfl, rfl, by simp⟩
  · rcases foot_some a (fun z => h (.inl z)) with rfl | rfl | rfl | rfl | rfl | rfl <;> rcases twelve n (fun z => h (.inr z)) with rfl | rfl | rfl | rfl | rfl | rfl | rfl | rfl | rfl | rfl | rfl | rfl <;> decide +kernel
theorem ordo_i (a n : Int) (k : Nat) (hk : 40 ≤ k) : impl_RhythmOrdo.f k a n = some (ord a n) :=
  at_rounds (impl_RhythmOrdo.mono a n) hk (ordo_all a n).1
theorem ordo_s (a n : Int) (k : Nat) (hk : 40 ≤ k) : spec_RhythmOrdo.f k a n = some (ord a n) :=
  at_rounds (spec_RhythmOrdo.mono a n) hk (ordo_all a n).2.1
theorem ord_len (a n : Int) : (ord a n).1.length ≤ 12 := (ordo_all a n).2.2
def pick (l : List Int) (m : Int) (acc : List Int) : List Int := if (ord m l.length).2.2 = true ∧ (ord m l.length).1 = l then acc ++ [m] else acc
theorem pick_len (l : List Int) (m : Int) (acc : List Int) : (pick l m acc).length ≤ acc.length + 1 := by
  unfold pick
  split <;> simp
theorem modes_i (l acc : List Int) (m : Int) (k : Nat) (hk : 40 ≤ k) (h0 : 0 ≤ m) (h6 : m ≤ 6) (ha : acc.length < 100) : impl_RhythmModes.l0 (k + 1) l acc m = impl_RhythmModes.l0 k l (pick l m acc) (m + 1) := by
  have hw : wrap64 (m + 1) = m + 1 := w0 (by omega) (by omega)
  simp only [impl_RhythmModes.l0]
  rw [if_pos h6, ordo_i _ _ _ hk]
  simp only [Option.bind_some]
  rw [impl_equalNumbers_f _ _ _ (by have := ord_len m l.length; omega) (by have := ord_len m l.length; omega)]
  simp only [Option.bind_some, hw, pick]
  rw [if_pos (show acc.length < 17592186044416 by omega)]
  by_cases h1 : (ord m l.length).2.2 = true <;> by_cases h2 : (ord m l.length).1 = l <;> simp [h1, h2]
theorem modes_s (l acc : List Int) (m : Int) (k : Nat) (hk : 40 ≤ k) (h0 : 0 ≤ m) (h6 : m ≤ 6) (ha : acc.length < 100) : spec_RhythmModes.l0 (k + 1) l acc m = spec_RhythmModes.l0 k l (pick l m acc) (m + 1) := by
  have hw : wrap64 (m + 1) = m + 1 := w0 (by omega) (by omega)
  simp only [spec_RhythmModes.l0]
  rw [if_pos h6, ordo_s _ _ _ hk]
  simp only [Option.bind_some]
  rw [spec_l2Same_f _ _ _ (by have := ord_len m l.length; omega) (by have := ord_len m l.length; omega)]
  simp only [Option.bind_some, hw, pick]
  rw [if_pos (show acc.length < 17592186044416 by omega)]
  by_cases h1 : (ord m l.length).2.2 = true <;> by_cases h2 : (ord m l.length).1 = l <;> simp [h1, h2]
def R (l : List Int) : List Int := pick l 6 (pick l 5 (pick l 4 (pick l 3 (pick l 2 (pick l 1 [])))))
theorem R_len (l : List Int) : (R l).length ≤ 6 := by
  unfold R
  have h1 := pick_len l 1 []
  have h2 := pick_len l 2 (pick l 1 [])
  have h3 := pick_len l 3 (pick l 2 (pick l 1 []))
  have h4 := pick_len l 4 (pick l 3 (pick l 2 (pick l 1 [])))
  have h5 := pick_len l 5 (pick l 4 (pick l 3 (pick l 2 (pick l 1 []))))
  have h6 := pick_len l 6 (pick l 5 (pick l 4 (pick l 3 (pick l 2 (pick l 1 [])))))
  simp only [List.length_nil] at h1
  omega
theorem modesI (l : List Int) (k : Nat) (hk : 60 ≤ k) : impl_RhythmModes.f k l = some (R l) := by
  obtain ⟨k, rfl⟩ : ∃ m, k = m + 7 := ⟨k - 7, by omega⟩
  unfold impl_RhythmModes.f
  have h1 := pick_len l 1 []
  have h2 := pick_len l 2 (pick l 1 [])
  have h3 := pick_len l 3 (pick l 2 (pick l 1 []))
  have h4 := pick_len l 4 (pick l 3 (pick l 2 (pick l 1 [])))
  have h5 := pick_len l 5 (pick l 4 (pick l 3 (pick l 2 (pick l 1 []))))
  simp only [List.length_nil] at h1
  rw [modes_i l [] 1 (k + 6) (by omega) (by omega) (by omega) (by simp), modes_i l _ (1 + 1) (k + 5) (by omega) (by omega) (by omega) (by omega), modes_i l _ (1 + 1 + 1) (k + 4) (by omega) (by omega) (by omega) (by simp only [Int.reduceAdd]; omega), modes_i l _ (1 + 1 + 1 + 1) (k + 3) (by omega) (by omega) (by omega) (by simp only [Int.reduceAdd]; omega), modes_i l _ (1 + 1 + 1 + 1 + 1) (k + 2) (by omega) (by omega) (by omega) (by simp only [Int.reduceAdd]; omega), modes_i l _ (1 + 1 + 1 + 1 + 1 + 1) (k + 1) (by omega) (by omega) (by omega) (by simp only [Int.reduceAdd]; omega)]
  simp only [impl_RhythmModes.l0]
  rw [if_neg (by omega)]
  rfl
theorem modesS (l : List Int) (k : Nat) (hk : 60 ≤ k) : spec_RhythmModes.f k l = some (R l) := by
  obtain ⟨k, rfl⟩ : ∃ m, k = m + 7 := ⟨k - 7, by omega⟩
  unfold spec_RhythmModes.f
  have h1 := pick_len l 1 []
  have h2 := pick_len l 2 (pick l 1 [])
  have h3 := pick_len l 3 (pick l 2 (pick l 1 []))
  have h4 := pick_len l 4 (pick l 3 (pick l 2 (pick l 1 [])))
  have h5 := pick_len l 5 (pick l 4 (pick l 3 (pick l 2 (pick l 1 []))))
  simp only [List.length_nil] at h1
  rw [modes_s l [] 1 (k + 6) (by omega) (by omega) (by omega) (by simp), modes_s l _ (1 + 1) (k + 5) (by omega) (by omega) (by omega) (by omega), modes_s l _ (1 + 1 + 1) (k + 4) (by omega) (by omega) (by omega) (by simp only [Int.reduceAdd]; omega), modes_s l _ (1 + 1 + 1 + 1) (k + 3) (by omega) (by omega) (by omega) (by simp only [Int.reduceAdd]; omega), modes_s l _ (1 + 1 + 1 + 1 + 1) (k + 2) (by omega) (by omega) (by omega) (by simp only [Int.reduceAdd]; omega), modes_s l _ (1 + 1 + 1 + 1 + 1 + 1) (k + 1) (by omega) (by omega) (by omega) (by simp only [Int.reduceAdd]; omega)]
  simp only [spec_RhythmModes.l0]
  rw [if_neg (by omega)]
  rfl
theorem laws_eqIntS_l0 (xs ys : List Int) (hl : xs.length = ys.length) (hb : xs.length < 4611686018427387904) : ∀ (d i k : Nat), i + d = xs.length → d < k → laws_eqIntS.l0 k xs ys (i : Int) = some (decide (xs.drop i = ys.drop i)) := by
  intro d
  induction d with
  | zero =>
    intro i k hi hk
    obtain ⟨k, rfl⟩ : ∃ m, k = m + 1 := ⟨k - 1, by omega⟩
    simp only [laws_eqIntS.l0]
    rw [if_neg (by omega), List.drop_eq_nil_of_le (by omega), List.drop_eq_nil_of_le (by omega)]
    rfl
  | succ d ih =>
    intro i k hi hk
    obtain ⟨k, rfl⟩ : ∃ m, k = m + 1 := ⟨k - 1, by omega⟩
    have hx : i < xs.length := by omega
    have hy : i < ys.length := by omega
    simp only [laws_eqIntS.l0]
    rw [if_pos (by omega), if_pos (by omega), if_pos (by omega), rd_at xs i hx, rd_at ys i hy, List.drop_eq_getElem_cons hx, List.drop_eq_getElem_cons hy]
    by_cases e : xs[i] = ys[i]
    · rw [if_pos e, w1 (by omega), ih (i + 1) k (by omega) (by omega)]
      simp only [List.cons.injEq, e, true_and]
    · rw [if_neg e]
      simp only [List.cons.injEq, e, false_and, decide_false]
theorem laws_eqIntS_f (xs ys : List Int) (k : Nat) (hb : xs.length < 4611686018427387904) (hk : xs.length < k) : laws_eqIntS.f k xs ys = some (decide (xs = ys)) := by
  unfold laws_eqIntS.f
  by_cases hl : xs.length = ys.length
  · rw [if_pos (by omega)]
    simpa using laws_eqIntS_l0 xs ys hl hb xs.length 0 k (by omega) (by omega)
  · rw [if_neg (by omega), decide_eq_false (fun e => hl (by rw [e]))]
theorem laws_toIntS_l0 : ∀ (xs zs pre : List Int) (k : Nat), zs.length = xs.length → (pre ++ xs).length < 4611686018427387904 → xs.length < k → laws_toIntS.l0 k (pre ++ xs) (pre ++ zs) (pre.length : Int) = some (pre ++ xs) := by
  intro xs
  induction xs with
  | nil =>
    intro zs pre k hz hb hk
    obtain ⟨k, rfl⟩ : ∃ m, k = m + 1 := ⟨k - 1, by omega⟩
    simp only [laws_toIntS.l0]
    rw [if_neg (by simp)]
    have : zs = [] := List.length_eq_zero_iff.mp hz
    rw [this]
  | cons x xs ih =>
    intro zs pre k hz hb hk
    obtain ⟨k, rfl⟩ : ∃ m, k = m + 1 := ⟨k - 1, by omega⟩
    match zs, hz with
    | z :: zs, hz =>
    simp only [List.length_append, List.length_cons] at hb hk hz
    have hp : pre.length < (pre ++ x :: xs).length := by simp
    have hp2 : pre.length < (pre ++ z :: zs).length := by simp
    simp only [laws_toIntS.l0]
    rw [if_pos (by omega), if_pos (by omega), if_pos (by omega), rd_at _ _ hp, w1 (by omega)]
    have e1 : (pre ++ x :: xs)[pre.length]'hp = x := by simp
    have e2 : (pre ++ z :: zs).set ((pre.length : Int)).toNat x = (pre ++ [x]) ++ zs := by simp
    rw [e1, e2]
    have := ih zs (pre ++ [x]) k (by omega) (by simp; omega) (by omega)
    simpa using this
theorem laws_toIntS_f (xs : List Int) (k : Nat) (hb : xs.length ≤ 1048576) (hk : xs.length < k) : laws_toIntS.f k xs = some xs := by
  unfold laws_toIntS.f
  rw [if_pos (by omega), if_pos (by omega)]
  simpa using laws_toIntS_l0 xs (List.replicate xs.length 0) [] k (by simp) (by simp; omega) hk
def marks (m : Int) : Nat → List Int
  | 0 => []
  | n + 1 => m :: marks (m + 1) n
theorem marks_length (n : Nat) : ∀ m, (marks m n).length = n := by
  induction n with
  | zero => intro m; rfl
  | succ n ih => intro m; simp [marks, ih]
theorem mark_l0 : ∀ (xs pre : List Int) (m : Int) (k : Nat), 0 ≤ m → m + xs.length < 4611686018427387904 → (pre ++ xs).length < 4611686018427387904 → xs.length < k → laws_markIntS.l0 k (pre ++ xs) m (pre.length : Int) = some (m + xs.length, pre ++ marks m xs.length) := by
  intro xs
  induction xs with
  | nil =>
    intro pre m k hm hn hb hk
    obtain ⟨k, rfl⟩ : ∃ m, k = m + 1 := ⟨k - 1, by omega⟩
    simp only [laws_markIntS.l0]
    rw [if_neg (by simp)]
    simp [marks]
  | cons x xs ih =>
    intro pre m k hm hn hb hk
    obtain ⟨k, rfl⟩ : ∃ m, k = m + 1 := ⟨k - 1, by omega⟩
    simp only [List.length_append, List.length_cons] at hb hk hn
    have hp : pre.length < (pre ++ x :: xs).length := by simp
    simp only [laws_markIntS.l0]
    rw [if_pos (by omega), if_pos (by omega), w1 (by omega), w0 (i := m + 1) (by omega) (by omega)]
    have e2 : (pre ++ x :: xs).set ((pre.length : Int)).toNat m = (pre ++ [m]) ++ xs := by simp
    rw [e2]
    have := ih (pre ++ [m]) (m + 1) k (by omega) (by omega) (by simp; omega) (by omega)
    rw [show (((pre ++ [m]).length : Nat) : Int) = ((pre.length + 1 : Nat) : Int) from by simp] at this
    rw [this]
    simp [marks]
    omega
theorem held_l0 : ∀ (n : Nat) (pre : List Int) (m : Int) (k : Nat), 0 ≤ m → m + n < 4611686018427387904 → pre.length + n < 4611686018427387904 → n < k → laws_heldIntS.l0 k (pre ++ marks m n) m (pre.length : Int) = some (m + n) := by
  intro n
  induction n with
  | zero =>
    intro pre m k hm hn hb hk
    obtain ⟨k, rfl⟩ : ∃ m, k = m + 1 := ⟨k - 1, by omega⟩
    simp only [laws_heldIntS.l0]
    rw [if_neg (by simp [marks])]
    simp
  | succ n ih =>
    intro pre m k hm hn hb hk
    obtain ⟨k, rfl⟩ : ∃ m, k = m + 1 := ⟨k - 1, by omega⟩
    have hp : pre.length < (pre ++ marks m (n + 1)).length := by simp [marks]
    have e1 : (pre ++ marks m (n + 1))[pre.length]'hp = m := by simp [marks]
    simp only [laws_heldIntS.l0]
    rw [if_pos (by omega), if_pos (by omega), rd_at _ _ hp, e1, if_pos rfl, w1 (by omega), w0 (i := m + 1) (by omega) (by omega)]
    have := ih (pre ++ [m]) (m + 1) k (by omega) (by omega) (by simp; omega) (by omega)
    rw [show (((pre ++ [m]).length : Nat) : Int) = ((pre.length + 1 : Nat) : Int) from by simp, List.append_assoc] at this
    rw [show marks m (n + 1) = [m] ++ marks (m + 1) n from rfl, this]
    congr 1
    omega
theorem mark_f (xs : List Int) (k : Nat) (hb : xs.length ≤ 1048576) (hk : xs.length < k) : laws_markIntS.f k xs 1 = some (1 + (xs.length : Int), marks 1 xs.length) := by
  unfold laws_markIntS.f
  simpa using mark_l0 xs [] 1 k (by omega) (by omega) (by simp; omega) hk
theorem held_f (n : Nat) (k : Nat) (hb : n ≤ 1048576) (hk : n < k) : laws_heldIntS.f k (marks 1 n) 1 = some (1 + (n : Int)) := by
  unfold laws_heldIntS.f
  simpa using held_l0 n [] 1 k (by omega) (by omega) (by simp; omega) hk

theorem main : laws_FnExactRhythmModes.Pure := by
  intro l _ _ _
  by_cases hl : (l.length : Int) > 1048576
  · exact ⟨1, by unfold laws_FnExactRhythmModes.f; rw [if_pos hl]⟩
  · obtain ⟨K, hK⟩ : ∃ K, K = l.length + 100 := ⟨_, rfl⟩
    have hR := R_len l
    refine ⟨K + 1, ?_⟩
    unfold laws_FnExactRhythmModes.f
    rw [if_neg hl]
    simp (disch := omega) only [laws_toIntS_f, modesS, modesI, laws_eqIntS_f, mark_f, held_f, Option.bind_some, decide_true, if_true, Bool.not_true, if_neg]
    simp (disch := omega) only [laws_FnExactRhythmModes.j0, laws_toIntS_f, modesS, modesI, laws_eqIntS_f, mark_f, held_f, Option.bind_some, decide_true, if_true, Bool.not_true, if_neg, Bool.false_eq_true, if_false]

end Go.Proofs.Ytdddnfbedckgkaa.PureExactRhythmModes
namespace Go.Proofs.Ytdddnfbedckgkaa.Pure
theorem FnExactRhythmModes : PFnExactRhythmModes.laws_FnExactRhythmModes.Pure := Go.Proofs.Ytdddnfbedckgkaa.PureExactRhythmModes.main
end Go.Proofs.Ytdddnfbedckgkaa.Pure
