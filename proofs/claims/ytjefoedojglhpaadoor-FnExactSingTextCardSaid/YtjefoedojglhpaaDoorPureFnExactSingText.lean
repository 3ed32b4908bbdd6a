/- FnExactSingText: for every melody and every list of steps with at most 1048576 elements each the program's SingText answers as the reference's does, and leaves its arguments alone (longer lists the statement lets pass). The tables letterNames and syllableNames are tied to the program's text. No condition beyond the statement's own. -/
import Derived.Test.YtjefoedojglhpaaDoorSTx0
import Derived.Test.YtjefoedojglhpaaDoorSTx2
import Derived.Test.YtjefoedojglhpaaDoorSTx4
import Derived.Test.YtjefoedojglhpaaDoorSTx5
import Derived.Test.YtjefoedojglhpaaDoorSTx3
import Derived.Test.YtjefoedojglhpaaDoorSTx6
namespace Go.Proofs.YtjefoedojglhpaaDoor.PureFnExactSingText
open Go.RowKit Go.Proofs.YtjefoedojglhpaaDoor.ST Go.Proofs.YtjefoedojglhpaaDoorW.PrintWords Go.Proofs.YtjefoedojglhpaaDoorW.PrintLast Go.Proofs.YtjefoedojglhpaaDoorW.PrintMore 
set_option linter.unusedVariables false
set_option linter.unusedSimpArgs false
theorem w1 {i : Nat} (h : i < 4611686018427387904) : wrap64 ((i : Int) + 1) = ((i + 1 : Nat) : Int) := by
  unfold wrap64
  omega
theorem w0 {i : Int} (h : -9223372036854775808 ≤ i) (h' : i ≤ 9223372036854775807) : wrap64 i = i := by
  unfold wrap64
  omega
theorem rd_at (xs : List Int) (i : Nat) (h : i < xs.length) : rd xs (i : Int) = xs[i] := by
  simp [rd, List.getD_eq_getElem?_getD, h]
/-- A tone of the gamut. -/
def tv (a : Int) (b : Bool) : Bool := decide (0 ≤ a) && (decide (a ≤ 20) && (!b || decide (Int.tmod a 7 = 2)))
theorem tv_spec (a : Int) (b : Bool) : spec_ToneValid.f a b = some (tv a b) := by
  unfold spec_ToneValid.f spec_l6In.f spec_l1Letter.f tv
  by_cases h0 : a ≥ 0
  · rw [if_pos h0, decide_eq_true (show 0 ≤ a from h0)]
    by_cases h1 : a ≤ 20
    · simp only [h1, decide_true, Option.bind_some, if_true, Bool.true_and]
      cases b
      · rfl
      · simp
        rfl
    · simp [h1]
  · rw [if_neg h0, decide_eq_false (show ¬ 0 ≤ a from h0)]
    rfl
theorem tv_impl (a : Int) (b : Bool) : impl_Tone_valid.f a b = some (tv a b) := by
  unfold impl_Tone_valid.f tv
  by_cases h0 : a ≥ 0
  · rw [if_pos h0, decide_eq_true (show 0 ≤ a from h0)]
    by_cases h1 : a ≤ 20
    · rw [if_pos h1, decide_eq_true h1]
      cases b
      · rfl
      · simp
        rfl
    · rw [if_neg h1, decide_eq_false h1]
      rfl
  · rw [if_neg h0, decide_eq_false (show ¬ 0 ≤ a from h0)]
    rfl
theorem in_spec (a b c : Int) : spec_l6In.f a b c = some (decide (b ≤ a) && decide (a ≤ c)) := by
  unfold spec_l6In.f
  by_cases h0 : a ≥ b
  · rw [if_pos h0, decide_eq_true (show b ≤ a from h0)]; rfl
  · rw [if_neg h0, decide_eq_false (show ¬ b ≤ a from h0)]; rfl
theorem wrap64_in (x : Int) (h1 : -9223372036854775808 ≤ x) (h2 : x < 9223372036854775808) : wrap64 x = x := IntWalk.wrap64_in x (by omega)
theorem mono_add {α : Type} {f : Nat → Option α} (h : ∀ j, LeO (f j) (f (j + 1))) {j : Nat} : ∀ (k : Nat) (r : α), f j = some r → f (j + k) = some r
  | 0, _, e => e
  | k + 1, r, e => h (j + k) r (mono_add h k r e)
theorem in_f (a b c : Int) : spec_l6In.f a b c = some (decide (b ≤ a) && decide (a ≤ c)) := by
  unfold spec_l6In.f
  split <;> rename_i h <;> simp_all
  omega
theorem hex_out {x : Int} (h : ¬ (0 ≤ x ∧ x ≤ 14)) : isHex x = false := by
  rcases hex_cases x with ⟨_, k, hk, e⟩ | ⟨e, _⟩
  · exfalso
    have : k = 0 ∨ k = 1 ∨ k = 2 ∨ k = 3 ∨ k = 4 ∨ k = 5 ∨ k = 6 := by omega
    rcases this with rfl | rfl | rfl | rfl | rfl | rfl | rfl <;> simp [hexAll] at e <;> omega
  · exact e
theorem hexvalid_f (x : Int) : spec_HexValid.f x = some (isHex x) := by
  by_cases h : 0 ≤ x ∧ x ≤ 15
  · obtain ⟨n, rfl⟩ := Int.eq_ofNat_of_zero_le h.1
    have hn : n < 16 := by omega
    have key : ∀ n : Nat, n < 16 → spec_HexValid.f (n : Int) = some (isHex (n : Int)) := by decide +kernel
    exact key n hn
  · rw [hex_out (by omega)]
    unfold spec_HexValid.f
    rw [in_f]
    have : (decide (0 ≤ x) && decide (x ≤ 15)) = false := by
      simp only [Bool.and_eq_false_iff, decide_eq_false_iff_not]
      omega
    rw [this]
    rfl
theorem hextone_out {x : Int} (h : ¬ (0 ≤ x ∧ x ≤ 14)) (y : Int) : spec_HexTone.f x y = some (0, false, false) := by
  unfold spec_HexTone.f
  rw [hexvalid_f, hex_out h]
  rfl
theorem hextone_in (n m : Nat) (hn : n < 15) (hm : m < 6) : ∃ t, spec_HexTone.f (n : Int) (m : Int) = some t ∧ 0 ≤ t.1 ∧ t.1 ≤ 20 := by
  have key : ∀ n : Nat, n < 15 → ∀ m : Nat, m < 6 → (match spec_HexTone.f (n : Int) (m : Int) with | some t => decide (0 ≤ t.1 ∧ t.1 ≤ 20) | none => false) = true := by decide +kernel
  have h := key n hn m hm
  cases e : spec_HexTone.f (n : Int) (m : Int) with
  | none => rw [e] at h; cases h
  | some t => rw [e] at h; exact ⟨t, rfl, by simpa using h⟩
theorem sylspec_no (a0 a1 : Int) (b1 : Bool) (h : ∀ m : Nat, m < 6 → ∃ t, spec_HexTone.f a0 (m : Int) = some t ∧ (t.2.2 = true → (t.1 == a1) = false)) :
    ∀ d, d ≤ 6 → ∀ k, spec_HexSyllable.l0 (k + d + 1) a0 ((6 - d : Nat) : Int) a1 b1 = some (-1)
  | 0, _, k => by
    unfold spec_HexSyllable.l0
    rw [if_neg (by omega)]
  | d + 1, hd, k => by
    obtain ⟨t, ht, hn⟩ := h (6 - (d + 1)) (by omega)
    have ih := sylspec_no a0 a1 b1 h d (by omega) k
    have ew : wrap64 (((6 - (d + 1) : Nat) : Int) + 1) = ((6 - d : Nat) : Int) := by
      rw [wrap64_in _ (by omega) (by omega)]
      omega
    rw [show k + (d + 1) + 1 = (k + d + 1) + 1 by omega]
    unfold spec_HexSyllable.l0
    rw [if_pos (by omega), ht, Option.bind_some, ew]
    cases e : t.2.2 with
    | false => rw [if_neg (by decide)]; exact ih
    | true => rw [if_pos rfl, hn e, Bool.false_and, if_neg (by decide)]; exact ih
theorem syl_no (a0 a1 : Int) (b1 : Bool) (h : ¬ (0 ≤ a0 ∧ a0 ≤ 14 ∧ 0 ≤ a1 ∧ a1 ≤ 20)) (k : Nat) : spec_HexSyllable.f (k + 7) a0 a1 b1 = some (-1) := by
  unfold spec_HexSyllable.f
  refine sylspec_no a0 a1 b1 (fun m hm => ?_) 6 (Nat.le_refl _) k
  by_cases h0 : 0 ≤ a0 ∧ a0 ≤ 14
  · obtain ⟨n, rfl⟩ := Int.eq_ofNat_of_zero_le h0.1
    obtain ⟨t, ht, h1, h2⟩ := hextone_in n m (by omega) hm
    exact ⟨t, ht, fun _ => by simp; omega⟩
  · exact ⟨_, hextone_out h0 _, fun h => by cases h⟩
theorem valid_f (a : Int) (b : Bool) : ∃ v, impl_Tone_valid.f a b = some v ∧ (¬ (0 ≤ a ∧ a ≤ 20) → v = false) := by
  unfold impl_Tone_valid.f
  by_cases h0 : a ≥ 0
  · by_cases h1 : a ≤ 20
    · rw [if_pos h0, if_pos h1]
      cases b
      · exact ⟨_, rfl, fun h => absurd ⟨h0, h1⟩ h⟩
      · exact ⟨_, rfl, fun h => absurd ⟨h0, h1⟩ h⟩
    · rw [if_pos h0, if_neg h1]
      exact ⟨_, rfl, fun _ => rfl⟩
  · rw [if_neg h0]
    exact ⟨_, rfl, fun _ => rfl⟩
theorem sylimpl_no (a0 a1 : Int) (b1 : Bool) (h : ¬ (0 ≤ a0 ∧ a0 ≤ 14 ∧ 0 ≤ a1 ∧ a1 ≤ 20)) : impl_HexSyllable.f a0 a1 b1 = some (-1) := by
  obtain ⟨v, hv, hn⟩ := valid_f a1 b1
  unfold impl_HexSyllable.f
  rw [hv, Option.bind_some]
  by_cases h0 : 0 ≤ a0 ∧ a0 ≤ 14
  · rw [hn (by omega)]
    cases isHex a0 <;> rfl
  · rw [hex_out h0]
    rfl
theorem syl_same (a0 a1 : Int) (b1 : Bool) (k : Nat) : ∃ s, spec_HexSyllable.f (k + 7) a0 a1 b1 = some s ∧ impl_HexSyllable.f a0 a1 b1 = some s ∧ -1 ≤ s ∧ s ≤ 5 := by
  by_cases h : 0 ≤ a0 ∧ a0 ≤ 14 ∧ 0 ≤ a1 ∧ a1 ≤ 20
  · obtain ⟨n, rfl⟩ := Int.eq_ofNat_of_zero_le h.1
    obtain ⟨m, rfl⟩ := Int.eq_ofNat_of_zero_le h.2.2.1
    have key : ∀ b : Bool, ∀ n : Nat, n < 15 → ∀ m : Nat, m < 21 → (match spec_HexSyllable.f 7 (n : Int) (m : Int) b with | some s => decide (impl_HexSyllable.f (n : Int) (m : Int) b = some s ∧ -1 ≤ s ∧ s ≤ 5) | none => false) = true := by decide +kernel
    have h := key b1 n (by omega) m (by omega)
    cases e : spec_HexSyllable.f 7 (n : Int) (m : Int) b1 with
    | none => rw [e] at h; cases h
    | some s =>
      rw [e] at h
      have h' := of_decide_eq_true h
      refine ⟨s, ?_, h'⟩
      rw [Nat.add_comm]
      exact mono_add (fun j => spec_HexSyllable.mono _ _ _ j) k _ e
  · exact ⟨-1, syl_no a0 a1 b1 h k, sylimpl_no a0 a1 b1 h, by omega, by omega⟩
def tvv (t : S25) : Bool := tv t.f0 t.f1
theorem rdt_at (xs : List S25) (i : Nat) (h : i < xs.length) : rd_T25 xs (i : Int) = xs[i] := by
  simp [rd_T25, List.getD_eq_getElem?_getD, h]
theorem rdlt_at (xs : List S30) (i : Nat) (h : i < xs.length) : rd_T30 xs (i : Int) = xs[i] := by
  simp [rd_T30, List.getD_eq_getElem?_getD, h]
def convT (v : S30) : S25 := ⟨v.f0, v.f1⟩
theorem toToneS_l0 : ∀ (xs : List S30) (zs pre : List S25) (pre0 : List S30) (k : Nat), zs.length = xs.length → pre.length = pre0.length → (pre0 ++ xs).length < 4611686018427387904 → xs.length < k → laws_toToneS.l0 k (pre0 ++ xs) (pre ++ zs) (pre0.length : Int) = some (pre ++ xs.map convT) := by
  intro xs
  induction xs with
  | nil =>
    intro zs pre pre0 k hz hp hb hk
    obtain ⟨k, rfl⟩ : ∃ m, k = m + 1 := ⟨k - 1, by omega⟩
    simp only [laws_toToneS.l0]
    rw [if_neg (by simp)]
    have : zs = [] := List.length_eq_zero_iff.mp hz
    rw [this]
    rfl
  | cons x xs ih =>
    intro zs pre pre0 k hz hp hb hk
    obtain ⟨k, rfl⟩ : ∃ m, k = m + 1 := ⟨k - 1, by omega⟩
    match zs, hz with
    | z :: zs, hz =>
    simp only [List.length_append, List.length_cons] at hb hk hz
    have hq : pre0.length < (pre0 ++ x :: xs).length := by simp
    have hq2 : pre0.length < (pre ++ z :: zs).length := by simp [hp]
    have e1 : (pre0 ++ x :: xs)[pre0.length]'hq = x := by simp
    simp only [laws_toToneS.l0]
    rw [if_pos (by omega), if_pos (by omega), rdlt_at _ _ hq, e1]
    simp only [laws_toTone.f, Option.bind_some]
    rw [if_pos (by omega), w1 (by omega)]
    have e2 : (pre ++ z :: zs).set ((pre0.length : Int)).toNat (convT x) = (pre ++ [convT x]) ++ zs := by simp [← hp]
    have := ih zs (pre ++ [convT x]) (pre0 ++ [x]) k (by omega) (by simp [hp]) (by simp; omega) (by omega)
    rw [show (⟨x.f0, x.f1⟩ : S25) = convT x from rfl, e2]
    simpa using this
theorem toToneS_f (xs : List S30) (k : Nat) (hb : xs.length ≤ 1048576) (hk : xs.length < k) : laws_toToneS.f k xs = some (xs.map convT) := by
  unfold laws_toToneS.f
  rw [if_pos (by omega), if_pos (by omega)]
  simpa using toToneS_l0 xs (List.replicate xs.length z25) [] [] k (by simp) rfl (by simp; omega) hk
theorem toIntS_l0 : ∀ (xs zs pre pre0 : List Int) (k : Nat), zs.length = xs.length → pre.length = pre0.length → (pre0 ++ xs).length < 4611686018427387904 → xs.length < k → laws_toIntS.l0 k (pre0 ++ xs) (pre ++ zs) (pre0.length : Int) = some (pre ++ xs) := by
  intro xs
  induction xs with
  | nil =>
    intro zs pre pre0 k hz hp hb hk
    obtain ⟨k, rfl⟩ : ∃ m, k = m + 1 := ⟨k - 1, by omega⟩
    simp only [laws_toIntS.l0]
    rw [if_neg (by simp)]
    have : zs = [] := List.length_eq_zero_iff.mp hz
    rw [this]
  | cons x xs ih =>
    intro zs pre pre0 k hz hp hb hk
    obtain ⟨k, rfl⟩ : ∃ m, k = m + 1 := ⟨k - 1, by omega⟩
    match zs, hz with
    | z :: zs, hz =>
    simp only [List.length_append, List.length_cons] at hb hk hz
    have hq : pre0.length < (pre0 ++ x :: xs).length := by simp
    have hq2 : pre0.length < (pre ++ z :: zs).length := by simp [hp]
    have e1 : (pre0 ++ x :: xs)[pre0.length]'hq = x := by simp
    simp only [laws_toIntS.l0]
    rw [if_pos (by omega), if_pos (by omega), if_pos (by omega), rd_at _ _ hq, e1, w1 (by omega)]
    have e2 : (pre ++ z :: zs).set ((pre0.length : Int)).toNat x = (pre ++ [x]) ++ zs := by simp [← hp]
    have := ih zs (pre ++ [x]) (pre0 ++ [x]) k (by omega) (by simp [hp]) (by simp; omega) (by omega)
    rw [e2]
    simpa using this
theorem toIntS_f (xs : List Int) (k : Nat) (hb : xs.length ≤ 1048576) (hk : xs.length < k) : laws_toIntS.f k xs = some xs := by
  unfold laws_toIntS.f
  rw [if_pos (by omega), if_pos (by omega)]
  simpa using toIntS_l0 xs (List.replicate xs.length 0) [] [] k (by simp) rfl (by simp; omega) hk
theorem eqTone_self (v : S25) : laws_eqTone.f v.f0 v.f1 v.f0 v.f1 = some true := by
  simp [laws_eqTone.f]
theorem eqToneS_l0 (xs : List S25) (hb : xs.length < 4611686018427387904) : ∀ (d i k : Nat), i + d = xs.length → d < k → laws_eqToneS.l0 k xs xs (i : Int) = some true := by
  intro d
  induction d with
  | zero =>
    intro i k hi hk
    obtain ⟨k, rfl⟩ : ∃ m, k = m + 1 := ⟨k - 1, by omega⟩
    simp only [laws_eqToneS.l0]
    rw [if_neg (by omega)]
  | succ d ih =>
    intro i k hi hk
    obtain ⟨k, rfl⟩ : ∃ m, k = m + 1 := ⟨k - 1, by omega⟩
    simp only [laws_eqToneS.l0]
    rw [if_pos (by omega), if_pos (by omega), if_pos (by omega), rdt_at xs i (by omega), eqTone_self]
    simp only [Option.bind_some, if_true]
    rw [w1 (by omega)]
    exact ih (i + 1) k (by omega) (by omega)
theorem eqToneS_f (xs : List S25) (k : Nat) (hb : xs.length ≤ 1048576) (hk : xs.length < k) : laws_eqToneS.f k xs xs = some true := by
  unfold laws_eqToneS.f
  rw [if_pos rfl]
  simpa using eqToneS_l0 xs (by omega) xs.length 0 k (by omega) hk
theorem eqIntS_l0 (xs : List Int) (hb : xs.length < 4611686018427387904) : ∀ (d i k : Nat), i + d = xs.length → d < k → laws_eqIntS.l0 k xs xs (i : Int) = some true := by
  intro d
  induction d with
  | zero =>
    intro i k hi hk
    obtain ⟨k, rfl⟩ : ∃ m, k = m + 1 := ⟨k - 1, by omega⟩
    simp only [laws_eqIntS.l0]
    rw [if_neg (by omega)]
  | succ d ih =>
    intro i k hi hk
    obtain ⟨k, rfl⟩ : ∃ m, k = m + 1 := ⟨k - 1, by omega⟩
    simp only [laws_eqIntS.l0]
    rw [if_pos (by omega), if_pos (by omega), if_pos (by omega), if_pos trivial, w1 (by omega)]
    exact ih (i + 1) k (by omega) (by omega)
theorem eqIntS_f (xs : List Int) (k : Nat) (hb : xs.length ≤ 1048576) (hk : xs.length < k) : laws_eqIntS.f k xs xs = some true := by
  unfold laws_eqIntS.f
  rw [if_pos rfl]
  simpa using eqIntS_l0 xs (by omega) xs.length 0 k (by omega) hk
theorem szToneS_f (xs : List S30) (a : Int) (h0 : 0 ≤ a) (h1 : a ≤ 1048576) (hl : xs.length ≤ 9223372036854775807) : laws_szToneS.f xs a = some (if (xs.length : Int) ≤ a then a - xs.length else -1) := by
  unfold laws_szToneS.f
  rw [w0 (by omega) (by omega)]
  by_cases h : (xs.length : Int) ≤ a
  · rw [if_neg (by omega), if_pos h]
  · rw [if_pos (by omega), if_neg h]
def MV (l : List S25) : Bool := decide (l.length ≤ 24) && l.all tvv
theorem mvs_l0 (l : List S25) (hb : l.length < 4611686018427387904) : ∀ (d i k : Nat), i + d = l.length → d < k → (l.take i).all tvv = true → spec_MelodyValid.l0 k l (i : Int) = some (MV l) := by
  intro d
  induction d with
  | zero =>
    intro i k hi hk hv
    obtain ⟨k, rfl⟩ : ∃ m, k = m + 1 := ⟨k - 1, by omega⟩
    rw [List.take_of_length_le (by omega)] at hv
    simp only [spec_MelodyValid.l0]
    rw [if_neg (by omega)]
    unfold MV
    rw [hv, Bool.and_true]
    congr 1
    rw [decide_eq_decide]
    omega
  | succ d ih =>
    intro i k hi hk hv
    obtain ⟨k, rfl⟩ : ∃ m, k = m + 1 := ⟨k - 1, by omega⟩
    have hx : i < l.length := by omega
    simp only [spec_MelodyValid.l0]
    rw [if_pos (by omega), if_pos (by omega), rdt_at l i hx, tv_spec]
    simp only [Option.bind_some]
    by_cases hvi : tv l[i].f0 l[i].f1 = true
    · rw [if_pos hvi, w1 (by omega)]
      refine ih (i + 1) k (by omega) (by omega) ?_
      rw [List.take_succ_eq_append_getElem hx, List.all_append, hv]
      simp [tvv, hvi]
    · rw [if_neg hvi]
      have : l.all tvv = false := by
        rw [Bool.eq_false_iff]
        intro h
        exact hvi (List.all_eq_true.1 h _ (List.getElem_mem hx))
      unfold MV
      rw [this, Bool.and_false]
theorem mvs_f (l : List S25) (hb : l.length ≤ 1048576) (k : Nat) (hk : l.length < k) : spec_MelodyValid.f k l = some (MV l) := by
  unfold spec_MelodyValid.f
  simpa using mvs_l0 l (by omega) l.length 0 k (by omega) (by omega) (by simp)
theorem mvi_l0 (l : List S25) (hb : l.length < 4611686018427387904) : ∀ (d i k : Nat), i + d = l.length → d < k → impl_MelodyValid.l0 k l (l.length : Int) (i : Int) = some ((l.drop i).all tvv) := by
  intro d
  induction d with
  | zero =>
    intro i k hi hk
    obtain ⟨k, rfl⟩ : ∃ m, k = m + 1 := ⟨k - 1, by omega⟩
    simp only [impl_MelodyValid.l0]
    rw [if_neg (by omega), List.drop_eq_nil_of_le (by omega)]
    rfl
  | succ d ih =>
    intro i k hi hk
    obtain ⟨k, rfl⟩ : ∃ m, k = m + 1 := ⟨k - 1, by omega⟩
    have hx : i < l.length := by omega
    simp only [impl_MelodyValid.l0]
    rw [if_pos (by omega), if_pos (by omega), if_pos (by omega), rdt_at l i hx, tv_impl, List.drop_eq_getElem_cons hx, List.all_cons]
    simp only [Option.bind_some]
    by_cases ht : tv l[i].f0 l[i].f1 = true
    · rw [if_pos ht, w1 (by omega), ih (i + 1) k (by omega) (by omega), show tvv l[i] = true from ht, Bool.true_and]
    · rw [if_neg ht, show tvv l[i] = false from Bool.eq_false_iff.mpr ht, Bool.false_and]
theorem mvi_f (l : List S25) (k : Nat) (hk : 25 ≤ k) : impl_MelodyValid.f k l = some (MV l) := by
  unfold impl_MelodyValid.f MV
  by_cases h : l.length ≤ 24
  · rw [if_neg (by omega), decide_eq_true h, Bool.true_and]
    simpa using mvi_l0 l (by omega) l.length 0 k (by omega) (by omega)
  · rw [if_pos (by omega), decide_eq_false h, Bool.false_and]
def sylF (a0 a1 : Int) (b1 : Bool) : Int := (impl_HexSyllable.f a0 a1 b1).getD 0
theorem syls_f (a0 a1 : Int) (b1 : Bool) (k : Nat) (hk : 7 ≤ k) : spec_HexSyllable.f k a0 a1 b1 = some (sylF a0 a1 b1) := by
  obtain ⟨s, h1, h2, _⟩ := syl_same a0 a1 b1 (k - 7)
  rw [show k - 7 + 7 = k by omega] at h1
  unfold sylF
  rw [h1, h2]
  rfl
theorem syli_f (a0 a1 : Int) (b1 : Bool) : impl_HexSyllable.f a0 a1 b1 = some (sylF a0 a1 b1) := by
  obtain ⟨s, h1, h2, _⟩ := syl_same a0 a1 b1 0
  unfold sylF
  rw [h2]
  rfl
theorem syl_bd (a0 a1 : Int) (b1 : Bool) : -1 ≤ sylF a0 a1 b1 ∧ sylF a0 a1 b1 ≤ 5 := by
  obtain ⟨s, h1, h2, h3, h4⟩ := syl_same a0 a1 b1 0
  unfold sylF
  rw [h2]
  exact ⟨h3, h4⟩
/-- The steps fit the tones. -/
def SG : List S25 → List Int → Bool
  | t :: l, x :: s => if sylF x t.f0 t.f1 < 0 then false else SG l s
  | _, _ => true
theorem soi_l0 (l : List S25) (s : List Int) (hs : s.length = l.length) (hb : l.length < 4611686018427387904) : ∀ (d i k : Nat), i + d = l.length → d < k → impl_SingOk.l0 k s l (l.length : Int) (i : Int) = some (SG (l.drop i) (s.drop i)) := by
  intro d
  induction d with
  | zero =>
    intro i k hi hk
    obtain ⟨k, rfl⟩ : ∃ m, k = m + 1 := ⟨k - 1, by omega⟩
    simp only [impl_SingOk.l0]
    rw [if_neg (by omega), List.drop_eq_nil_of_le (by omega)]
    simp [SG]
  | succ d ih =>
    intro i k hi hk
    obtain ⟨k, rfl⟩ : ∃ m, k = m + 1 := ⟨k - 1, by omega⟩
    have hx : i < l.length := by omega
    have hy : i < s.length := by omega
    simp only [impl_SingOk.l0]
    rw [if_pos (by omega), if_pos (by omega), if_pos (by omega), if_pos (by omega), rdt_at l i hx, rd_at s i hy, syli_f, Option.bind_some, List.drop_eq_getElem_cons hx, List.drop_eq_getElem_cons hy]
    unfold SG
    by_cases h : sylF s[i] l[i].f0 l[i].f1 < 0
    · rw [if_pos h, if_pos h]
    · rw [if_neg h, if_neg h, w1 (by omega)]
      exact ih (i + 1) k (by omega) (by omega)
def SO (l : List S25) (s : List Int) : Bool := MV l && (decide (s.length = l.length) && SG l s)
theorem soi_f (l : List S25) (s : List Int) (k : Nat) (hk : 27 ≤ k) : impl_SingOk.f k l s = some (SO l s) := by
  unfold impl_SingOk.f SO
  rw [mvi_f l k (by omega), Option.bind_some]
  obtain ⟨k, rfl⟩ : ∃ m, k = m + 1 := ⟨k - 1, by omega⟩
  cases hM : MV l with
  | false => rfl
  | true =>
    have hl : l.length ≤ 24 := by
      unfold MV at hM
      rw [Bool.and_eq_true] at hM
      exact of_decide_eq_true hM.1
    rw [if_pos rfl, Bool.true_and]
    rw [impl_SingOk.j0]
    by_cases h : s.length = l.length
    · rw [if_neg (by simp; omega), decide_eq_true h, Bool.true_and]
      simpa using soi_l0 l s h (by omega) l.length 0 k (by omega) (by omega)
    · rw [if_pos (by simp; omega), decide_eq_false h, Bool.false_and]
theorem SO_len {l : List S25} {s : List Int} (h : SO l s = true) : l.length ≤ 24 ∧ s.length = l.length := by
  unfold SO MV at h
  simp only [Bool.and_eq_true, decide_eq_true_eq] at h
  exact ⟨h.1.1, h.2.1⟩
theorem sos_l0 (l : List S25) (s : List Int) (hs : s.length = l.length) (hb : l.length < 4611686018427387904) : ∀ (d i k : Nat), i + d = l.length → d + 8 < k → spec_SingOk.l0 k l s (i : Int) = some (SG (l.drop i) (s.drop i)) := by
  intro d
  induction d with
  | zero =>
    intro i k hi hk
    obtain ⟨k, rfl⟩ : ∃ m, k = m + 1 := ⟨k - 1, by omega⟩
    simp only [spec_SingOk.l0]
    rw [if_neg (by omega), List.drop_eq_nil_of_le (by omega)]
    simp [SG]
  | succ d ih =>
    intro i k hi hk
    obtain ⟨k, rfl⟩ : ∃ m, k = m + 1 := ⟨k - 1, by omega⟩
    have hx : i < l.length := by omega
    have hy : i < s.length := by omega
    simp only [spec_SingOk.l0]
    rw [if_pos (by omega), if_pos (by omega), if_pos (by omega), rdt_at l i hx, rd_at s i hy, syls_f _ _ _ k (by omega), Option.bind_some, List.drop_eq_getElem_cons hx, List.drop_eq_getElem_cons hy]
    unfold SG
    by_cases h : sylF s[i] l[i].f0 l[i].f1 < 0
    · rw [if_pos h, if_pos h]
    · rw [if_neg h, if_neg h, w1 (by omega)]
      exact ih (i + 1) k (by omega) (by omega)
theorem sos_f (l : List S25) (s : List Int) (k : Nat) (hb : l.length ≤ 1048576) (hk : l.length + 10 < k) : spec_SingOk.f k l s = some (SO l s) := by
  unfold spec_SingOk.f SO
  rw [mvs_f l hb k (by omega), Option.bind_some]
  obtain ⟨k, rfl⟩ : ∃ m, k = m + 1 := ⟨k - 1, by omega⟩
  cases MV l with
  | false => rfl
  | true =>
    rw [if_pos rfl, Bool.true_and]
    rw [spec_SingOk.j0]
    by_cases h : s.length = l.length
    · rw [if_neg (by simp; omega), decide_eq_true h, Bool.true_and]
      simpa using sos_l0 l s h (by omega) l.length 0 k (by omega) (by omega)
    · rw [if_pos (by simp; omega), decide_eq_false h, Bool.false_and]
theorem sylV_eq (h : Int) (t : S25) : sylV h t = sylF h t.f0 t.f1 := by
  unfold sylV
  rw [syli_f]
  rfl
theorem joinSp_one (b : ByteArray) : joinSp [b] = b := by
  unfold joinSp
  rw [List.map_cons, List.map_nil, Lib.join_one]
theorem joinSp_snoc (xs : List ByteArray) (hx : xs ≠ []) (b : ByteArray) : joinSp (xs ++ [b]) = joinSp xs ++ ⟨#[32]⟩ ++ b := by
  cases xs with
  | nil => exact absurd rfl hx
  | cons x r =>
    apply ByteArray.ext
    rw [ByteArray.data_append, ByteArray.data_append]
    apply Array.ext'
    unfold joinSp
    simp [Lib.join_cons, Lib.joinTail, List.append_assoc]
theorem joinSp_size (l : List S25) (s : List Int) (i : Nat) : (joinSp ((singNames l s).take i)).size ≤ 4 * i := by
  have hm : ∀ b ∈ (singNames l s).take i, b.size ≤ 3 := by
    intro b hb
    have hb := List.mem_of_mem_take hb
    unfold singNames at hb
    obtain ⟨j, hj, rfl⟩ := List.getElem_of_mem hb
    rw [List.getElem_zipWith]
    exact nameOf_size _
  have h := join_len (((singNames l s).take i).map (·.data.toList)) (by
    intro x hx
    obtain ⟨b, hb, rfl⟩ := List.mem_map.1 hx
    exact hm b hb)
  rw [List.length_map, List.length_take] at h
  show (Lib.join (((singNames l s).take i).map (·.data.toList)) [32]).length ≤ 4 * i
  omega
theorem sti_f (l : List S25) (s : List Int) (k : Nat) (hk : 27 ≤ k) : impl_SingText.f k l s = some (if SO l s = true then joinSp (singNames l s) else ⟨#[]⟩) := by
  unfold impl_SingText.f
  rw [soi_f l s k hk, Option.bind_some]
theorem tab6 (n : Nat) (hn : n < 6) : rdOf ByteArray.empty [(⟨#[117, 116]⟩ : ByteArray), ⟨#[114, 101]⟩, ⟨#[109, 105]⟩, ⟨#[102, 97]⟩, ⟨#[115, 111, 108]⟩, ⟨#[108, 97]⟩] (n : Int) = nameOf n := by
  have key : n = 0 ∨ n = 1 ∨ n = 2 ∨ n = 3 ∨ n = 4 ∨ n = 5 := by omega
  rcases key with rfl | rfl | rfl | rfl | rfl | rfl <;> rfl
theorem sts_l0 (m : List S25) (s : List Int) (h : SO m s = true) : ∀ (d i k : Nat), i + d = m.length → d + 10 < k → spec_SingText.l0 k m s (joinSp ((singNames m s).take i)) (i : Int) = some (joinSp (singNames m s)) := by
  obtain ⟨hm, hs⟩ := SO_len h
  have hok : impl_SingOk.f 27 m s = some true := by rw [soi_f m s 27 (by omega), h]
  obtain ⟨_, _, hf⟩ := sing_facts hok
  intro d
  induction d with
  | zero =>
    intro i k hi hk
    obtain ⟨k, rfl⟩ : ∃ m, k = m + 1 := ⟨k - 1, by omega⟩
    simp only [spec_SingText.l0]
    rw [if_neg (by omega), List.take_of_length_le (by rw [singNames_len hs]; omega)]
  | succ d ih =>
    intro i k hi hk
    obtain ⟨k, rfl⟩ : ∃ m, k = m + 1 := ⟨k - 1, by omega⟩
    have hlt : i < m.length := by omega
    obtain ⟨h1, v, hv, hv0⟩ := hf i hlt
    have hv6 := syl_six hv hv0
    have hsn := singNames_snoc hs hlt h1 hv
    obtain ⟨n, rfl⟩ := Int.eq_ofNat_of_zero_le hv0
    rw [Int.toNat_natCast] at hsn
    have hsp : spec_HexSyllable.f k s[i] m[i].f0 m[i].f1 = some (n : Int) := by
      rw [syls_f _ _ _ k (by omega), ← syli_f]
      exact hv
    have hz := joinSp_size m s i
    have hz1 := nameOf_size n
    have next := ih (i + 1) k (by omega) (by omega)
    rw [hsn] at next
    have hl6 : (n : Int) < (([(⟨#[117, 116]⟩ : ByteArray), ⟨#[114, 101]⟩, ⟨#[109, 105]⟩, ⟨#[102, 97]⟩, ⟨#[115, 111, 108]⟩, ⟨#[108, 97]⟩].length : Nat) : Int) := by
      show (n : Int) < ((6 : Nat) : Int)
      omega
    simp only [spec_SingText.l0, Option.bind_some]
    rw [if_pos (by omega)]
    by_cases hi0 : i = 0
    · subst hi0
      rw [if_neg (by omega), if_pos (by omega), if_pos (by omega), rd_at s 0 h1, rdt_at m 0 hlt, hsp, Option.bind_some, if_pos (by omega), if_pos hl6, tab6 n (by omega), if_pos (by omega), w1 (by omega)]
      have e : joinSp ((singNames m s).take 0) ++ nameOf n = joinSp ((singNames m s).take 0 ++ [nameOf n]) := by
        rw [List.take_zero, List.nil_append, joinSp_one]
        apply ByteArray.ext
        rw [ByteArray.data_append]
        apply Array.ext'
        simp [joinSp, Lib.join_nil]
      rw [e]
      exact next
    · have hne : (singNames m s).take i ≠ [] := by
        intro e
        have := congrArg List.length e
        rw [List.length_take, singNames_len hs, List.length_nil] at this
        omega
      have hz2 : (joinSp ((singNames m s).take i) ++ (⟨#[32]⟩ : ByteArray)).size = (joinSp ((singNames m s).take i)).size + 1 := by rw [ByteArray.size_append]; rfl
      rw [if_pos (by omega), if_pos (by omega), if_pos (by omega), if_pos (by omega), rd_at s i h1, rdt_at m i hlt, hsp, Option.bind_some, if_pos (by omega), if_pos hl6, tab6 n (by omega), if_pos (by omega), w1 (by omega), ← joinSp_snoc _ hne]
      exact next
theorem sts_f (m : List S25) (s : List Int) (k : Nat) (hb : m.length ≤ 1048576) (hk : m.length + 40 < k) : spec_SingText.f k m s = some (if SO m s = true then joinSp (singNames m s) else ⟨#[]⟩) := by
  unfold spec_SingText.f
  rw [sos_f m s k hb (by omega), Option.bind_some]
  by_cases h : SO m s = true
  · obtain ⟨hm, hs⟩ := SO_len h
    rw [if_pos h, if_pos h]
    have := sts_l0 m s h m.length 0 k (by omega) (by omega)
    rw [List.take_zero] at this
    exact this
  · rw [if_neg h, if_neg h]
theorem FnExactSingText : ∀ (l0 : List S30) (l1 : List Int), l0.length ≤ maxLen → l1.length ≤ maxLen → l1.length * 8 ≤ 140737488351232 → (∀ n ∈ l1, (Lit.int .i64 n).wf = true) → ∃ k, laws_FnExactSingText.f k l0 l1 = some true := by
  intro l0 l1 hl _ _ _
  have hl2 : l0.length ≤ 9223372036854775807 := by unfold maxLen at hl; exact hl
  by_cases h1 : (l1.length : Int) > 1048576
  · refine ⟨0, ?_⟩
    unfold laws_FnExactSingText.f
    rw [if_pos h1]
  · have e := szToneS_f l0 1048576 (by omega) (by omega) hl2
    by_cases h : l0.length ≤ 1048576
    · rw [if_pos (by omega)] at e
      obtain ⟨m, hm⟩ : ∃ m, m = l0.map convT := ⟨_, rfl⟩
      have hml : m.length = l0.length := by rw [hm]; simp
      have t : ∀ k, l0.length < k → laws_toToneS.f k l0 = some m := fun k hk => by rw [hm]; exact toToneS_f l0 k h hk
      refine ⟨l0.length + l1.length + 80, ?_⟩
      unfold laws_FnExactSingText.f
      rw [if_neg h1, e, Option.bind_some, if_neg (by omega)]
      simp (disch := omega) only [t, toIntS_f, sts_f, sti_f, eqToneS_f, eqIntS_f, Option.bind_some, bne_self_eq_false, Bool.false_eq_true, if_false, if_true, not_true_eq_false, ne_eq]
    · rw [if_neg (by omega)] at e
      refine ⟨0, ?_⟩
      unfold laws_FnExactSingText.f
      rw [if_neg h1, e]
      rfl

end Go.Proofs.YtjefoedojglhpaaDoor.PureFnExactSingText
