/- FnSingMutations: for every two lists of at most 1048576 bytes, the law of SingMutations holds of what the reference draws from them, and the lists read as before (longer lists the statement lets pass). The table letterNames is tied to the program's text. No condition beyond the statement's own. -/
import Derived.Test.YtjefoedojglhpaaDoorGMx0
import Derived.Test.YtjefoedojglhpaaDoorGMx2
import Derived.Test.YtjefoedojglhpaaDoorGMx5
import Derived.Test.YtjefoedojglhpaaDoorGMx6
import Derived.Test.YtjefoedojglhpaaDoorGMx3
import Derived.Test.YtjefoedojglhpaaDoorGMx7
import Derived.Test.YtjefoedojglhpaaDoorGMx4
import Derived.Test.YtjefoedojglhpaaDoorGMx8
import Derived.Test.YtjefoedojglhpaaDoorGMx9
import Derived.Test.YtjefoedojglhpaaDoorGMx10
import Derived.Test.YtjefoedojglhpaaDoorGMx11
import Derived.Test.YtjefoedojglhpaaDoorGMx12
import Derived.Test.YtjefoedojglhpaaDoorGMx13
import Derived.Laws.Bits64
namespace Go.Proofs.YtjefoedojglhpaaDoor.PureFnSingMutations
open Go.RowKit Go.Proofs.YtjefoedojglhpaaDoor.GM Go.Proofs.YtjefoedojglhpaaDoorW.PrintWords Go.Proofs.YtjefoedojglhpaaDoorW.PrintLast Go.Proofs.YtjefoedojglhpaaDoorW.PrintMore 
set_option linter.unusedVariables false
set_option linter.unusedSimpArgs false
theorem w1 {i : Nat} (h : i < 4611686018427387904) : wrap64 ((i : Int) + 1) = ((i + 1 : Nat) : Int) := by
  unfold wrap64
  omega
theorem w0 {i : Int} (h : -9223372036854775808 ≤ i) (h' : i ≤ 9223372036854775807) : wrap64 i = i := by
  unfold wrap64
  omega
theorem rd_at (xs : List Int) (i : Nat) (h : i < xs.length) : rd xs (i : Int) = xs[i] := by
  simp [rd, List.getD_eq_getElem?_getD, h]
/-- A tone of the gamut. -/
def tv (a : Int) (b : Bool) : Bool := decide (0 ≤ a) && (decide (a ≤ 20) && (!b || decide (Int.tmod a 7 = 2)))
theorem tv_spec (a : Int) (b : Bool) : spec_ToneValid.f a b = some (tv a b) := by
  unfold spec_ToneValid.f spec_l6In.f spec_l1Letter.f tv
  by_cases h0 : a ≥ 0
  · rw [if_pos h0, decide_eq_true (show 0 ≤ a from h0)]
    by_cases h1 : a ≤ 20
    · simp only [h1, decide_true, Option.bind_some, if_true, Bool.true_and]
      cases b
      · rfl
      · simp
        rfl
    · simp [h1]
  · rw [if_neg h0, decide_eq_false (show ¬ 0 ≤ a from h0)]
    rfl
theorem tv_impl (a : Int) (b : Bool) : impl_Tone_valid.f a b = some (tv a b) := by
  unfold impl_Tone_valid.f tv
  by_cases h0 : a ≥ 0
  · rw [if_pos h0, decide_eq_true (show 0 ≤ a from h0)]
    by_cases h1 : a ≤ 20
    · rw [if_pos h1, decide_eq_true h1]
      cases b
      · rfl
      · simp
        rfl
    · rw [if_neg h1, decide_eq_false h1]
      rfl
  · rw [if_neg h0, decide_eq_false (show ¬ 0 ≤ a from h0)]
    rfl
theorem in_spec (a b c : Int) : spec_l6In.f a b c = some (decide (b ≤ a) && decide (a ≤ c)) := by
  unfold spec_l6In.f
  by_cases h0 : a ≥ b
  · rw [if_pos h0, decide_eq_true (show b ≤ a from h0)]; rfl
  · rw [if_neg h0, decide_eq_false (show ¬ b ≤ a from h0)]; rfl
theorem wrap64_in (x : Int) (h1 : -9223372036854775808 ≤ x) (h2 : x < 9223372036854775808) : wrap64 x = x := IntWalk.wrap64_in x (by omega)
theorem mono_add {α : Type} {f : Nat → Option α} (h : ∀ j, LeO (f j) (f (j + 1))) {j : Nat} : ∀ (k : Nat) (r : α), f j = some r → f (j + k) = some r
  | 0, _, e => e
  | k + 1, r, e => h (j + k) r (mono_add h k r e)
theorem in_f (a b c : Int) : spec_l6In.f a b c = some (decide (b ≤ a) && decide (a ≤ c)) := by
  unfold spec_l6In.f
  split <;> rename_i h <;> simp_all
  omega
theorem hex_out {x : Int} (h : ¬ (0 ≤ x ∧ x ≤ 14)) : isHex x = false := by
  rcases hex_cases x with ⟨_, k, hk, e⟩ | ⟨e, _⟩
  · exfalso
    have : k = 0 ∨ k = 1 ∨ k = 2 ∨ k = 3 ∨ k = 4 ∨ k = 5 ∨ k = 6 := by omega
    rcases this with rfl | rfl | rfl | rfl | rfl | rfl | rfl <;> simp [hexAll] at e <;> omega
  · exact e
theorem hexvalid_f (x : Int) : spec_HexValid.f x = some (isHex x) := by
  by_cases h : 0 ≤ x ∧ x ≤ 15
  · obtain ⟨n, rfl⟩ := Int.eq_ofNat_of_zero_le h.1
    have hn : n < 16 := by omega
    have key : ∀ n : Nat, n < 16 → spec_HexValid.f (n : Int) = some (isHex (n : Int)) := by decide +kernel
    exact key n hn
  · rw [hex_out (by omega)]
    unfold spec_HexValid.f
    rw [in_f]
    have : (decide (0 ≤ x) && decide (x ≤ 15)) = false := by
      simp only [Bool.and_eq_false_iff, decide_eq_false_iff_not]
      omega
    rw [this]
    rfl
theorem hextone_out {x : Int} (h : ¬ (0 ≤ x ∧ x ≤ 14)) (y : Int) : spec_HexTone.f x y = some (0, false, false) := by
  unfold spec_HexTone.f
  rw [hexvalid_f, hex_out h]
  rfl
theorem hextone_in (n m : Nat) (hn : n < 15) (hm : m < 6) : ∃ t, spec_HexTone.f (n : Int) (m : Int) = some t ∧ 0 ≤ t.1 ∧ t.1 ≤ 20 := by
  have key : ∀ n : Nat, n < 15 → ∀ m : Nat, m < 6 → (match spec_HexTone.f (n : Int) (m : Int) with | some t => decide (0 ≤ t.1 ∧ t.1 ≤ 20) | none => false) = true := by decide +kernel
  have h := key n hn m hm
  cases e : spec_HexTone.f (n : Int) (m : Int) with
  | none => rw [e] at h; cases h
  | some t => rw [e] at h; exact ⟨t, rfl, by simpa using h⟩
theorem sylspec_no (a0 a1 : Int) (b1 : Bool) (h : ∀ m : Nat, m < 6 → ∃ t, spec_HexTone.f a0 (m : Int) = some t ∧ (t.2.2 = true → (t.1 == a1) = false)) :
    ∀ d, d ≤ 6 → ∀ k, spec_HexSyllable.l0 (k + d + 1) a0 ((6 - d : Nat) : Int) a1 b1 = some (-1)
  | 0, _, k => by
    unfold spec_HexSyllable.l0
    rw [if_neg (by omega)]
  | d + 1, hd, k => by
    obtain ⟨t, ht, hn⟩ := h (6 - (d + 1)) (by omega)
    have ih := sylspec_no a0 a1 b1 h d (by omega) k
    have ew : wrap64 (((6 - (d + 1) : Nat) : Int) + 1) = ((6 - d : Nat) : Int) := by
      rw [wrap64_in _ (by omega) (by omega)]
      omega
    rw [show k + (d + 1) + 1 = (k + d + 1) + 1 by omega]
    unfold spec_HexSyllable.l0
    rw [if_pos (by omega), ht, Option.bind_some, ew]
    cases e : t.2.2 with
    | false => rw [if_neg (by decide)]; exact ih
    | true => rw [if_pos rfl, hn e, Bool.false_and, if_neg (by decide)]; exact ih
theorem syl_no (a0 a1 : Int) (b1 : Bool) (h : ¬ (0 ≤ a0 ∧ a0 ≤ 14 ∧ 0 ≤ a1 ∧ a1 ≤ 20)) (k : Nat) : spec_HexSyllable.f (k + 7) a0 a1 b1 = some (-1) := by
  unfold spec_HexSyllable.f
  refine sylspec_no a0 a1 b1 (fun m hm => ?_) 6 (Nat.le_refl _) k
  by_cases h0 : 0 ≤ a0 ∧ a0 ≤ 14
  · obtain ⟨n, rfl⟩ := Int.eq_ofNat_of_zero_le h0.1
    obtain ⟨t, ht, h1, h2⟩ := hextone_in n m (by omega) hm
    exact ⟨t, ht, fun _ => by simp; omega⟩
  · exact ⟨_, hextone_out h0 _, fun h => by cases h⟩
theorem valid_f (a : Int) (b : Bool) : ∃ v, impl_Tone_valid.f a b = some v ∧ (¬ (0 ≤ a ∧ a ≤ 20) → v = false) := by
  unfold impl_Tone_valid.f
  by_cases h0 : a ≥ 0
  · by_cases h1 : a ≤ 20
    · rw [if_pos h0, if_pos h1]
      cases b
      · exact ⟨_, rfl, fun h => absurd ⟨h0, h1⟩ h⟩
      · exact ⟨_, rfl, fun h => absurd ⟨h0, h1⟩ h⟩
    · rw [if_pos h0, if_neg h1]
      exact ⟨_, rfl, fun _ => rfl⟩
  · rw [if_neg h0]
    exact ⟨_, rfl, fun _ => rfl⟩
theorem sylimpl_no (a0 a1 : Int) (b1 : Bool) (h : ¬ (0 ≤ a0 ∧ a0 ≤ 14 ∧ 0 ≤ a1 ∧ a1 ≤ 20)) : impl_HexSyllable.f a0 a1 b1 = some (-1) := by
  obtain ⟨v, hv, hn⟩ := valid_f a1 b1
  unfold impl_HexSyllable.f
  rw [hv, Option.bind_some]
  by_cases h0 : 0 ≤ a0 ∧ a0 ≤ 14
  · rw [hn (by omega)]
    cases isHex a0 <;> rfl
  · rw [hex_out h0]
    rfl
theorem syl_same (a0 a1 : Int) (b1 : Bool) (k : Nat) : ∃ s, spec_HexSyllable.f (k + 7) a0 a1 b1 = some s ∧ impl_HexSyllable.f a0 a1 b1 = some s ∧ -1 ≤ s ∧ s ≤ 5 := by
  by_cases h : 0 ≤ a0 ∧ a0 ≤ 14 ∧ 0 ≤ a1 ∧ a1 ≤ 20
  · obtain ⟨n, rfl⟩ := Int.eq_ofNat_of_zero_le h.1
    obtain ⟨m, rfl⟩ := Int.eq_ofNat_of_zero_le h.2.2.1
    have key : ∀ b : Bool, ∀ n : Nat, n < 15 → ∀ m : Nat, m < 21 → (match spec_HexSyllable.f 7 (n : Int) (m : Int) b with | some s => decide (impl_HexSyllable.f (n : Int) (m : Int) b = some s ∧ -1 ≤ s ∧ s ≤ 5) | none => false) = true := by decide +kernel
    have h := key b1 n (by omega) m (by omega)
    cases e : spec_HexSyllable.f 7 (n : Int) (m : Int) b1 with
    | none => rw [e] at h; cases h
    | some s =>
      rw [e] at h
      have h' := of_decide_eq_true h
      refine ⟨s, ?_, h'⟩
      rw [Nat.add_comm]
      exact mono_add (fun j => spec_HexSyllable.mono _ _ _ j) k _ e
  · exact ⟨-1, syl_no a0 a1 b1 h k, sylimpl_no a0 a1 b1 h, by omega, by omega⟩
def tvv (t : S25) : Bool := tv t.f0 t.f1
theorem rdt_at (xs : List S25) (i : Nat) (h : i < xs.length) : rd_T25 xs (i : Int) = xs[i] := by
  simp [rd_T25, List.getD_eq_getElem?_getD, h]
def MV (l : List S25) : Bool := decide (l.length ≤ 24) && l.all tvv
theorem mvs_l0 (l : List S25) (hb : l.length < 4611686018427387904) : ∀ (d i k : Nat), i + d = l.length → d < k → (l.take i).all tvv = true → spec_MelodyValid.l0 k l (i : Int) = some (MV l) := by
  intro d
  induction d with
  | zero =>
    intro i k hi hk hv
    obtain ⟨k, rfl⟩ : ∃ m, k = m + 1 := ⟨k - 1, by omega⟩
    rw [List.take_of_length_le (by omega)] at hv
    simp only [spec_MelodyValid.l0]
    rw [if_neg (by omega)]
    unfold MV
    rw [hv, Bool.and_true]
    congr 1
    rw [decide_eq_decide]
    omega
  | succ d ih =>
    intro i k hi hk hv
    obtain ⟨k, rfl⟩ : ∃ m, k = m + 1 := ⟨k - 1, by omega⟩
    have hx : i < l.length := by omega
    simp only [spec_MelodyValid.l0]
    rw [if_pos (by omega), if_pos (by omega), rdt_at l i hx, tv_spec]
    simp only [Option.bind_some]
    by_cases hvi : tv l[i].f0 l[i].f1 = true
    · rw [if_pos hvi, w1 (by omega)]
      refine ih (i + 1) k (by omega) (by omega) ?_
      rw [List.take_succ_eq_append_getElem hx, List.all_append, hv]
      simp [tvv, hvi]
    · rw [if_neg hvi]
      have : l.all tvv = false := by
        rw [Bool.eq_false_iff]
        intro h
        exact hvi (List.all_eq_true.1 h _ (List.getElem_mem hx))
      unfold MV
      rw [this, Bool.and_false]
theorem mvs_f (l : List S25) (hb : l.length ≤ 1048576) (k : Nat) (hk : l.length < k) : spec_MelodyValid.f k l = some (MV l) := by
  unfold spec_MelodyValid.f
  simpa using mvs_l0 l (by omega) l.length 0 k (by omega) (by omega) (by simp)
theorem mvi_l0 (l : List S25) (hb : l.length < 4611686018427387904) : ∀ (d i k : Nat), i + d = l.length → d < k → impl_MelodyValid.l0 k l (l.length : Int) (i : Int) = some ((l.drop i).all tvv) := by
  intro d
  induction d with
  | zero =>
    intro i k hi hk
    obtain ⟨k, rfl⟩ : ∃ m, k = m + 1 := ⟨k - 1, by omega⟩
    simp only [impl_MelodyValid.l0]
    rw [if_neg (by omega), List.drop_eq_nil_of_le (by omega)]
    rfl
  | succ d ih =>
    intro i k hi hk
    obtain ⟨k, rfl⟩ : ∃ m, k = m + 1 := ⟨k - 1, by omega⟩
    have hx : i < l.length := by omega
    simp only [impl_MelodyValid.l0]
    rw [if_pos (by omega), if_pos (by omega), if_pos (by omega), rdt_at l i hx, tv_impl, List.drop_eq_getElem_cons hx, List.all_cons]
    simp only [Option.bind_some]
    by_cases ht : tv l[i].f0 l[i].f1 = true
    · rw [if_pos ht, w1 (by omega), ih (i + 1) k (by omega) (by omega), show tvv l[i] = true from ht, Bool.true_and]
    · rw [if_neg ht, show tvv l[i] = false from Bool.eq_false_iff.mpr ht, Bool.false_and]
theorem mvi_f (l : List S25) (k : Nat) (hk : 25 ≤ k) : impl_MelodyValid.f k l = some (MV l) := by
  unfold impl_MelodyValid.f MV
  by_cases h : l.length ≤ 24
  · rw [if_neg (by omega), decide_eq_true h, Bool.true_and]
    simpa using mvi_l0 l (by omega) l.length 0 k (by omega) (by omega)
  · rw [if_pos (by omega), decide_eq_false h, Bool.false_and]

def sylF (a0 a1 : Int) (b1 : Bool) : Int := (impl_HexSyllable.f a0 a1 b1).getD 0
theorem syls_f (a0 a1 : Int) (b1 : Bool) (k : Nat) (hk : 7 ≤ k) : spec_HexSyllable.f k a0 a1 b1 = some (sylF a0 a1 b1) := by
  obtain ⟨s, h1, h2, _⟩ := syl_same a0 a1 b1 (k - 7)
  rw [show k - 7 + 7 = k by omega] at h1
  unfold sylF
  rw [h1, h2]
  rfl
theorem syli_f (a0 a1 : Int) (b1 : Bool) : impl_HexSyllable.f a0 a1 b1 = some (sylF a0 a1 b1) := by
  obtain ⟨s, h1, h2, _⟩ := syl_same a0 a1 b1 0
  unfold sylF
  rw [h2]
  rfl
theorem syl_bd (a0 a1 : Int) (b1 : Bool) : -1 ≤ sylF a0 a1 b1 ∧ sylF a0 a1 b1 ≤ 5 := by
  obtain ⟨s, h1, h2, h3, h4⟩ := syl_same a0 a1 b1 0
  unfold sylF
  rw [h2]
  exact ⟨h3, h4⟩
/-- The steps fit the tones. -/
def SG : List S25 → List Int → Bool
  | t :: l, x :: s => if sylF x t.f0 t.f1 < 0 then false else SG l s
  | _, _ => true
theorem sos_l0 (l : List S25) (s : List Int) (hs : s.length = l.length) (hb : l.length < 4611686018427387904) : ∀ (d i k : Nat), i + d = l.length → d + 8 < k → spec_SingOk.l0 k l s (i : Int) = some (SG (l.drop i) (s.drop i)) := by
  intro d
  induction d with
  | zero =>
    intro i k hi hk
    obtain ⟨k, rfl⟩ : ∃ m, k = m + 1 := ⟨k - 1, by omega⟩
    simp only [spec_SingOk.l0]
    rw [if_neg (by omega), List.drop_eq_nil_of_le (by omega)]
    simp [SG]
  | succ d ih =>
    intro i k hi hk
    obtain ⟨k, rfl⟩ : ∃ m, k = m + 1 := ⟨k - 1, by omega⟩
    have hx : i < l.length := by omega
    have hy : i < s.length := by omega
    simp only [spec_SingOk.l0]
    rw [if_pos (by omega), if_pos (by omega), if_pos (by omega), rdt_at l i hx, rd_at s i hy, syls_f _ _ _ k (by omega), Option.bind_some, List.drop_eq_getElem_cons hx, List.drop_eq_getElem_cons hy]
    unfold SG
    by_cases h : sylF s[i] l[i].f0 l[i].f1 < 0
    · rw [if_pos h, if_pos h]
    · rw [if_neg h, if_neg h, w1 (by omega)]
      exact ih (i + 1) k (by omega) (by omega)
theorem soi_l0 (l : List S25) (s : List Int) (hs : s.length = l.length) (hb : l.length < 4611686018427387904) : ∀ (d i k : Nat), i + d = l.length → d < k → impl_SingOk.l0 k s l (l.length : Int) (i : Int) = some (SG (l.drop i) (s.drop i)) := by
  intro d
  induction d with
  | zero =>
    intro i k hi hk
    obtain ⟨k, rfl⟩ : ∃ m, k = m + 1 := ⟨k - 1, by omega⟩
    simp only [impl_SingOk.l0]
    rw [if_neg (by omega), List.drop_eq_nil_of_le (by omega)]
    simp [SG]
  | succ d ih =>
    intro i k hi hk
    obtain ⟨k, rfl⟩ : ∃ m, k = m + 1 := ⟨k - 1, by omega⟩
    have hx : i < l.length := by omega
    have hy : i < s.length := by omega
    simp only [impl_SingOk.l0]
    rw [if_pos (by omega), if_pos (by omega), if_pos (by omega), if_pos (by omega), rdt_at l i hx, rd_at s i hy, syli_f, Option.bind_some, List.drop_eq_getElem_cons hx, List.drop_eq_getElem_cons hy]
    unfold SG
    by_cases h : sylF s[i] l[i].f0 l[i].f1 < 0
    · rw [if_pos h, if_pos h]
    · rw [if_neg h, if_neg h, w1 (by omega)]
      exact ih (i + 1) k (by omega) (by omega)
def SO (l : List S25) (s : List Int) : Bool := MV l && (decide (s.length = l.length) && SG l s)
theorem sos_f (l : List S25) (s : List Int) (k : Nat) (hb : l.length ≤ 1048576) (hk : l.length + 10 < k) : spec_SingOk.f k l s = some (SO l s) := by
  unfold spec_SingOk.f SO
  rw [mvs_f l hb k (by omega), Option.bind_some]
  obtain ⟨k, rfl⟩ : ∃ m, k = m + 1 := ⟨k - 1, by omega⟩
  cases MV l with
  | false => rfl
  | true =>
    rw [if_pos rfl, Bool.true_and]
    rw [spec_SingOk.j0]
    by_cases h : s.length = l.length
    · rw [if_neg (by simp; omega), decide_eq_true h, Bool.true_and]
      simpa using sos_l0 l s h (by omega) l.length 0 k (by omega) (by omega)
    · rw [if_pos (by simp; omega), decide_eq_false h, Bool.false_and]
theorem soi_f (l : List S25) (s : List Int) (k : Nat) (hk : 27 ≤ k) : impl_SingOk.f k l s = some (SO l s) := by
  unfold impl_SingOk.f SO
  rw [mvi_f l k (by omega), Option.bind_some]
  obtain ⟨k, rfl⟩ : ∃ m, k = m + 1 := ⟨k - 1, by omega⟩
  cases hM : MV l with
  | false => rfl
  | true =>
    have hl : l.length ≤ 24 := by
      unfold MV at hM
      rw [Bool.and_eq_true] at hM
      exact of_decide_eq_true hM.1
    rw [if_pos rfl, Bool.true_and]
    rw [impl_SingOk.j0]
    by_cases h : s.length = l.length
    · rw [if_neg (by simp; omega), decide_eq_true h, Bool.true_and]
      simpa using soi_l0 l s h (by omega) l.length 0 k (by omega) (by omega)
    · rw [if_pos (by simp; omega), decide_eq_false h, Bool.false_and]
theorem SO_len {l : List S25} {s : List Int} (h : SO l s = true) : l.length ≤ 24 ∧ s.length = l.length := by
  unfold SO MV at h
  simp only [Bool.and_eq_true, decide_eq_true_eq] at h
  exact ⟨h.1.1, h.2.1⟩
/-- The mutations from the i-th step on. -/
theorem mut_l0 (s : List Int) (hb : s.length ≤ 1048576) : ∀ (d i k : Nat) (c : Int), i + d = s.length → d < k → 1 ≤ i → 0 ≤ c → c ≤ i → ∃ r, spec_SingMutations.l0 k s c (i : Int) = some r ∧ impl_SingMutations.l0 k s c (i : Int) = some r := by
  intro d
  induction d with
  | zero =>
    intro i k c hi hk h1 h2 h3
    obtain ⟨k, rfl⟩ : ∃ m, k = m + 1 := ⟨k - 1, by omega⟩
    refine ⟨c, ?_, ?_⟩
    · simp only [spec_SingMutations.l0]
      rw [if_neg (by omega)]
    · simp only [impl_SingMutations.l0]
      rw [if_neg (by omega)]
  | succ d ih =>
    intro i k c hi hk h1 h2 h3
    obtain ⟨k, rfl⟩ : ∃ m, k = m + 1 := ⟨k - 1, by omega⟩
    have e : wrap64 ((i : Int) - 1) = ((i - 1 : Nat) : Int) := by rw [w0 (by omega) (by omega)]; omega
    simp only [spec_SingMutations.l0, impl_SingMutations.l0]
    have c1 : (i : Int) < (s.length : Int) := by omega
    have c2 : (0 : Int) ≤ (i : Int) := by omega
    have c3 : (0 : Int) ≤ ((i - 1 : Nat) : Int) := by omega
    have c4 : ((i - 1 : Nat) : Int) < (s.length : Int) := by omega
    simp only [e, c1, c2, c3, c4, if_true]
    rw [w1 (by omega), w0 (i := c + 1) (by omega) (by omega)]
    by_cases h : rd s (i : Int) = rd s ((i - 1 : Nat) : Int)
    · rw [if_pos h, if_pos h]
      exact ih (i + 1) k c (by omega) (by omega) (by omega) (by omega) (by omega)
    · rw [if_neg h, if_neg h]
      exact ih (i + 1) k (c + 1) (by omega) (by omega) (by omega) (by omega) (by omega)
theorem mut_same (l : List S25) (s : List Int) (k : Nat) (hb : l.length ≤ 1048576) (hk : l.length + 30 < k) : ∃ r, spec_SingMutations.f k l s = some r ∧ impl_SingMutations.f k l s = some r := by
  unfold spec_SingMutations.f impl_SingMutations.f
  rw [sos_f l s k hb (by omega), soi_f l s k (by omega), Option.bind_some, Option.bind_some]
  cases h : SO l s with
  | false => exact ⟨-1, rfl, rfl⟩
  | true =>
    obtain ⟨h1, h2⟩ := SO_len h
    rw [if_pos rfl, if_pos rfl]
    cases hs : s.length with
    | zero =>
      obtain ⟨k, rfl⟩ : ∃ m, k = m + 1 := ⟨k - 1, by omega⟩
      refine ⟨0, ?_, ?_⟩
      · simp only [spec_SingMutations.l0]
        rw [if_neg (by omega)]
      · simp only [impl_SingMutations.l0]
        rw [if_neg (by omega)]
    | succ n => simpa using mut_l0 s (by omega) n 1 k 0 (by omega) (by omega) (by omega) (by omega) (by omega)
theorem xor_nn (a b : Int) (ha : 0 ≤ a) (ha' : a < 4611686018427387904) (hb : 0 ≤ b) (hb' : b < 4611686018427387904) : 0 ≤ Go.bits .xor .i64 a b := by
  obtain ⟨x, rfl⟩ := Int.eq_ofNat_of_zero_le ha
  obtain ⟨y, rfl⟩ := Int.eq_ofNat_of_zero_le hb
  have hx : x ^^^ y < 2 ^ 62 := Nat.xor_lt_two_pow (by omega) (by omega)
  have h1 : (BitVec.ofInt 64 (x : Int)).toNat = x := by
    rw [BitVec.ofInt_natCast, BitVec.toNat_ofNat]; exact Nat.mod_eq_of_lt (by omega)
  have h2 : (BitVec.ofInt 64 (y : Int)).toNat = y := by
    rw [BitVec.ofInt_natCast, BitVec.toNat_ofNat]; exact Nat.mod_eq_of_lt (by omega)
  have e : Go.bits .xor .i64 (x : Int) (y : Int) = IntKind.i64.wrap (((x ^^^ y : Nat)) : Int) := by
    show IntKind.i64.wrap ((BitVec.ofInt 64 (x : Int) ^^^ BitVec.ofInt 64 (y : Int)).toNat : Int) = _
    rw [BitVec.toNat_xor, h1, h2]
  rw [e, IntWalk.i64_in _ (by omega)]
  omega
/-- A list of bytes. -/
def Bytes (l : List Int) : Prop := ∀ n ∈ l, 0 ≤ n ∧ n ≤ 255
theorem rd_byte {l : List Int} (h : Bytes l) (i : Int) (h0 : 0 ≤ i) (h1 : i < (l.length : Int)) : 0 ≤ rd l i ∧ rd l i ≤ 255 := by
  obtain ⟨n, rfl⟩ := Int.eq_ofNat_of_zero_le h0
  have hn : n < l.length := by omega
  rw [rd_at l n hn]
  exact h _ (List.getElem_mem hn)
theorem tm_bd (a n : Int) (ha : 0 ≤ a) (hn : 0 < n) : 0 ≤ Int.tmod a n ∧ Int.tmod a n < n := by
  rw [Int.tmod_eq_emod_of_nonneg ha]
  exact ⟨Int.emod_nonneg _ (by omega), Int.emod_lt_of_pos _ hn⟩
theorem td_bd (a n : Int) (ha : 0 ≤ a) (hn : 0 < n) : 0 ≤ Int.tdiv a n ∧ Int.tdiv a n ≤ a := by
  rw [Int.tdiv_eq_ediv_of_nonneg ha]
  exact ⟨Int.ediv_nonneg ha (by omega), Int.ediv_le_self _ ha⟩
theorem pick_some (l : List Int) (hl : Bytes l) (hn : l.length ≤ 2000) (p n : Int) (hp : 0 ≤ p) (hp' : p ≤ 1000000) (h1 : 1 ≤ n) (h2 : n ≤ 1000000) :
    ∃ v, 0 ≤ v ∧ v < n ∧ ∀ k, spec_l6Rd_pick.f (k + 1) l p n = some (v, p + 1) := by
  unfold spec_l6Rd_pick.f
  simp only [spec_l6Rd_pick.j0]
  rw [if_neg (show ¬ n < 1 by omega), w0 (i := p + 1) (by omega) (by omega), show p + 1 - 1 = p by omega, w0 (i := p) (by omega) (by omega)]
  by_cases hl0 : l.length = 0
  · refine ⟨0, by omega, by omega, fun k => ?_⟩
    rw [if_pos (show ((l.length : Int) == 0) = true by rw [hl0]; rfl)]
  · rw [if_neg (show ¬ (((l.length : Int) == 0) = true) from fun h => hl0 (by have := beq_iff_eq.1 h; omega))]
    have hlp : (0 : Int) < (l.length : Int) := by omega
    by_cases hpl : p < (l.length : Int)
    · obtain ⟨b0, b1⟩ := rd_byte hl p hp hpl
      rw [if_pos hpl, if_pos hp, if_neg (show ¬ n = 0 by omega), w0 (i := rd l p) (by omega) (by omega)]
      obtain ⟨t0, t1⟩ := tm_bd (rd l p) n b0 (by omega)
      exact ⟨_, t0, t1, fun _ => rfl⟩
    · rw [if_neg hpl, if_neg (show ¬ (l.length : Int) = 0 by omega), w0 (i := p * 7) (by omega) (by omega), w0 (i := p * 7 + 3) (by omega) (by omega)]
      obtain ⟨i0, i1⟩ := tm_bd p (l.length : Int) hp hlp
      obtain ⟨j0, j1⟩ := tm_bd (p * 7 + 3) (l.length : Int) (by omega) hlp
      obtain ⟨q0, q1⟩ := td_bd p (l.length : Int) hp hlp
      rw [if_pos i0, if_pos i1, if_pos j0, if_pos j1, if_neg (show ¬ n = 0 by omega)]
      obtain ⟨a0, a1⟩ := rd_byte hl _ i0 i1
      obtain ⟨b0, b1⟩ := rd_byte hl _ j0 j1
      generalize rd l (Int.tmod p (l.length : Int)) = a at a0 a1 ⊢
      generalize rd l (Int.tmod (p * 7 + 3) (l.length : Int)) = b at b0 b1 ⊢
      generalize Int.tdiv p (l.length : Int) = q at q0 q1 ⊢
      simp (disch := omega) only [w0]
      have x0 : 0 ≤ a * 131 + b * 1117 + p * 29 + q * 53 := by omega
      obtain ⟨d0, d1⟩ := td_bd (a * 131 + b * 1117 + p * 29 + q * 53) 64 x0 (by omega)
      rw [w0 (i := Int.tdiv (a * 131 + b * 1117 + p * 29 + q * 53) 64) (by omega) (by omega)]
      obtain ⟨t0, t1⟩ := tm_bd (Go.bits .xor .i64 (a * 131 + b * 1117 + p * 29 + q * 53) (Int.tdiv (a * 131 + b * 1117 + p * 29 + q * 53) 64)) n (xor_nn _ _ x0 (by omega) d0 (by omega)) (by omega)
      exact ⟨_, t0, t1, fun _ => rfl⟩
/-- What a reader's pick answers. -/
def pk (l : List Int) (p n : Int) : Int := ((spec_l6Rd_pick.f 1 l p n).getD (0, 0)).1
structure Rdr (l : List Int) : Prop where
  bytes : Bytes l
  len : l.length ≤ 2000
theorem pk_f {l : List Int} (h : Rdr l) (p n : Int) (k : Nat) (hp : 0 ≤ p) (hp' : p ≤ 1000000) (h1 : 1 ≤ n) (h2 : n ≤ 1000000) (hk : 1 ≤ k) : spec_l6Rd_pick.f k l p n = some (pk l p n, p + 1) := by
  obtain ⟨v, _, _, hv⟩ := pick_some l h.bytes h.len p n hp hp' h1 h2
  unfold pk
  rw [hv 0]
  obtain ⟨k, rfl⟩ : ∃ m, k = m + 1 := ⟨k - 1, by omega⟩
  rw [hv k]
  rfl
theorem pk_bd {l : List Int} (h : Rdr l) (p n : Int) (hp : 0 ≤ p) (hp' : p ≤ 1000000) (h1 : 1 ≤ n) (h2 : n ≤ 1000000) : 0 ≤ pk l p n ∧ pk l p n < n := by
  obtain ⟨v, h3, h4, hv⟩ := pick_some l h.bytes h.len p n hp hp' h1 h2
  unfold pk
  rw [hv 0]
  exact ⟨h3, h4⟩
theorem open_f (l : List Int) (hl : Bytes l) : ∃ s, spec_l6Open.f l = some (s, 0) ∧ Rdr s := by
  unfold spec_l6Open.f
  by_cases h : (l.length : Int) > 2000
  · rw [if_pos h, if_pos (by omega)]
    exact ⟨_, rfl, ⟨fun n hn => hl n (List.mem_of_mem_take hn), by simp; omega⟩⟩
  · rw [if_neg h]
    exact ⟨_, rfl, ⟨hl, by omega⟩⟩
theorem bytes_of {l : List Int} (h : ∀ n ∈ l, (Lit.int .u8 n).wf = true) : Bytes l := fun n hn => by
  have := h n hn
  simp [Lit.wf, IntKind.min, IntKind.max, IntKind.signed, IntKind.bits] at this
  omega
theorem hex_d {l : List Int} (h : Rdr l) (p : Int) (hp : 0 ≤ p) (hp' : p ≤ 100000) : ∃ s q, -1 ≤ s ∧ s ≤ 22 ∧ p ≤ q ∧ q ≤ p + 2 ∧ ∀ k, 1 ≤ k → spec_l91Hex.f k l p = some (s, q) := by
  unfold spec_l91Hex.f
  by_cases h0 : pk l p 6 = 0
  · obtain ⟨v0, v1⟩ := pk_bd h (p + 1) 24 (by omega) (by omega) (by omega) (by omega)
    refine ⟨pk l (p + 1) 24 - 1, p + 2, by omega, by omega, by omega, by omega, fun k hk => ?_⟩
    rw [pk_f h p 6 k (by omega) (by omega) (by omega) (by omega) hk]
    simp only [Option.bind_some]
    rw [if_pos h0, pk_f h (p + 1) 24 k (by omega) (by omega) (by omega) (by omega) hk]
    simp only [Option.bind_some]
    rw [w0 (by omega) (by omega), show p + 1 + 1 = p + 2 by omega]
  · obtain ⟨v0, v1⟩ := pk_bd h (p + 1) 7 (by omega) (by omega) (by omega) (by omega)
    have hr : 0 ≤ rd ([0, 3, 6, 7, 10, 13, 14] : List Int) (pk l (p + 1) 7) ∧ rd ([0, 3, 6, 7, 10, 13, 14] : List Int) (pk l (p + 1) 7) ≤ 14 := by
      obtain ⟨n, hn⟩ := Int.eq_ofNat_of_zero_le v0
      rw [hn]
      have key : ∀ n : Nat, n < 7 → 0 ≤ rd ([0, 3, 6, 7, 10, 13, 14] : List Int) (n : Int) ∧ rd ([0, 3, 6, 7, 10, 13, 14] : List Int) (n : Int) ≤ 14 := by decide +kernel
      exact key n (by omega)
    refine ⟨rd ([0, 3, 6, 7, 10, 13, 14] : List Int) (pk l (p + 1) 7), p + 2, by omega, by omega, by omega, by omega, fun k hk => ?_⟩
    rw [pk_f h p 6 k (by omega) (by omega) (by omega) (by omega) hk]
    simp only [Option.bind_some]
    rw [if_neg h0, pk_f h (p + 1) 7 k (by omega) (by omega) (by omega) (by omega) hk]
    simp only [Option.bind_some]
    rw [if_pos v0, if_pos (by simpa using v1), show p + 1 + 1 = p + 2 by omega]
theorem letter_f (a : Int) : spec_l1Letter.f a = some (Int.tmod a 7) := rfl
theorem clamp_bd (a b x : Int) (h : a ≤ b) : a ≤ mx a (mn b x) ∧ mx a (mn b x) ≤ b := by
  unfold mx mn
  constructor <;> (repeat' split) <;> omega
theorem mel_end (l : List Int) (h : Rdr l) (acc : List S25) (n : Nat) (x p : Int) (hn : n ≤ 20) (ha : acc.length = n) (hp : 0 ≤ p) (hp' : p ≤ 100000) :
    ∃ m q, m.length = n ∧ p ≤ q ∧ q ≤ p + 2 ∧ ∀ k, 2 ≤ k → spec_l91Melody.l0 k acc (n : Int) x (n : Int) l p = some (m, q) := by
  by_cases h0 : n = 0
  · refine ⟨acc, p, ha, by omega, by omega, fun k hk => ?_⟩
    obtain ⟨k, rfl⟩ : ∃ m, k = m + 1 := ⟨k - 1, by omega⟩
    simp only [spec_l91Melody.l0]
    rw [if_neg (by omega), if_neg (by omega)]
  · by_cases h1 : pk l p 50 = 0
    · obtain ⟨v0, v1⟩ := pk_bd h (p + 1) 3 (by omega) (by omega) (by omega) (by omega)
      refine ⟨acc.set (0 : Int).toNat ⟨rd ([-1, 21, 20] : List Int) (pk l (p + 1) 3), (rd_T25 acc 0).f1⟩, p + 1 + 1, by simp [ha], by omega, by omega, fun k hk => ?_⟩
      obtain ⟨k, rfl⟩ : ∃ m, k = m + 1 := ⟨k - 1, by omega⟩
      simp only [spec_l91Melody.l0]
      rw [if_neg (by omega), if_pos (by omega), pk_f h p 50 k (by omega) (by omega) (by omega) (by omega) (by omega)]
      simp only [Option.bind_some]
      rw [if_pos h1, pk_f h (p + 1) 3 k (by omega) (by omega) (by omega) (by omega) (by omega)]
      simp only [Option.bind_some]
      rw [if_pos v0, if_pos (by simpa using v1), if_pos (by omega)]
    · by_cases h2 : pk l p 50 = 1
      · have e : wrap64 ((n : Int) - 1) = ((n - 1 : Nat) : Int) := by rw [w0 (by omega) (by omega)]; omega
        refine ⟨acc.set (((n - 1 : Nat) : Int)).toNat ⟨(rd_T25 acc ((n - 1 : Nat) : Int)).f0, true⟩, p + 1, by simp [ha], by omega, by omega, fun k hk => ?_⟩
        obtain ⟨k, rfl⟩ : ∃ m, k = m + 1 := ⟨k - 1, by omega⟩
        simp only [spec_l91Melody.l0]
        rw [if_neg (by omega), if_pos (by omega), pk_f h p 50 k (by omega) (by omega) (by omega) (by omega) (by omega)]
        simp only [Option.bind_some]
        rw [if_neg h1, if_pos h2, e, if_pos (by omega), if_pos (by omega)]
      · refine ⟨acc, p + 1, ha, by omega, by omega, fun k hk => ?_⟩
        obtain ⟨k, rfl⟩ : ∃ m, k = m + 1 := ⟨k - 1, by omega⟩
        simp only [spec_l91Melody.l0]
        rw [if_neg (by omega), if_pos (by omega), pk_f h p 50 k (by omega) (by omega) (by omega) (by omega) (by omega)]
        simp only [Option.bind_some]
        rw [if_neg h1, if_neg h2]
theorem mel_l0 (l : List Int) (h : Rdr l) (n : Nat) (hn : n ≤ 20) : ∀ (d i : Nat) (acc : List S25) (x p : Int), i + d = n → acc.length = i → 0 ≤ x → x ≤ 20 → 0 ≤ p → p ≤ 10000 + 2 * i →
    ∃ m q, m.length = n ∧ p ≤ q ∧ q ≤ p + 2 * d + 2 ∧ ∀ k, d + 2 ≤ k → spec_l91Melody.l0 k acc (n : Int) x (i : Int) l p = some (m, q) := by
  intro d
  induction d with
  | zero =>
    intro i acc x p hi ha h0 h1 hp hp'
    have e : i = n := by omega
    subst e
    obtain ⟨m, q, hm, q0, q1, hq⟩ := mel_end l h acc i x p hn ha hp (by omega)
    exact ⟨m, q, hm, q0, by omega, fun k hk => hq k (by omega)⟩
  | succ d ih =>
    intro i acc x p hi ha h0 h1 hp hp'
    by_cases hx : Int.tmod x 7 = 2
    · obtain ⟨v0, v1⟩ := pk_bd h (p + 1) 5 (by omega) (by omega) (by omega) (by omega)
      obtain ⟨c0, c1⟩ := clamp_bd 1 15 (x + pk l (p + 1) 5 - 2) (by omega)
      obtain ⟨m, q, hm, q0, q1, hq⟩ := ih (i + 1) (acc ++ [⟨x, pk l p 3 == 0⟩]) (mx 1 (mn 15 (x + pk l (p + 1) 5 - 2))) (p + 1 + 1) (by omega) (by simp [ha]) (by omega) (by omega) (by omega) (by omega)
      refine ⟨m, q, hm, by omega, by omega, fun k hk => ?_⟩
      obtain ⟨k, rfl⟩ : ∃ m, k = m + 1 := ⟨k - 1, by omega⟩
      simp only [spec_l91Melody.l0]
      rw [if_pos (by omega), letter_f]
      simp only [Option.bind_some]
      rw [if_pos hx, pk_f h p 3 k (by omega) (by omega) (by omega) (by omega) (by omega)]
      simp only [Option.bind_some]
      rw [if_pos (by omega), pk_f h (p + 1) 5 k (by omega) (by omega) (by omega) (by omega) (by omega)]
      simp only [Option.bind_some]
      rw [w1 (by omega), w0 (i := x + pk l (p + 1) 5) (by omega) (by omega), w0 (i := x + pk l (p + 1) 5 - 2) (by omega) (by omega)]
      exact hq k (by omega)
    · obtain ⟨v0, v1⟩ := pk_bd h p 5 (by omega) (by omega) (by omega) (by omega)
      obtain ⟨c0, c1⟩ := clamp_bd 1 15 (x + pk l p 5 - 2) (by omega)
      obtain ⟨m, q, hm, q0, q1, hq⟩ := ih (i + 1) (acc ++ [⟨x, false⟩]) (mx 1 (mn 15 (x + pk l p 5 - 2))) (p + 1) (by omega) (by simp [ha]) (by omega) (by omega) (by omega) (by omega)
      refine ⟨m, q, hm, by omega, by omega, fun k hk => ?_⟩
      obtain ⟨k, rfl⟩ : ∃ m, k = m + 1 := ⟨k - 1, by omega⟩
      simp only [spec_l91Melody.l0]
      rw [if_pos (by omega), letter_f]
      simp only [Option.bind_some]
      rw [if_neg hx, if_pos (by omega), pk_f h p 5 k (by omega) (by omega) (by omega) (by omega) (by omega)]
      simp only [Option.bind_some]
      rw [w1 (by omega), w0 (i := x + pk l p 5) (by omega) (by omega), w0 (i := x + pk l p 5 - 2) (by omega) (by omega)]
      exact hq k (by omega)
theorem mel_d (l : List Int) (h : Rdr l) (p : Int) (a : Nat) (ha : a ≤ 20) (hp : 0 ≤ p) (hp' : p ≤ 5000) : ∃ m q, m.length ≤ a ∧ p ≤ q ∧ q ≤ p + 100 ∧ ∀ k, 40 ≤ k → spec_l91Melody.f k l p (a : Int) = some (m, q) := by
  obtain ⟨v0, v1⟩ := pk_bd h p ((a : Int) + 1) (by omega) (by omega) (by omega) (by omega)
  obtain ⟨u0, u1⟩ := pk_bd h (p + 1) 5 (by omega) (by omega) (by omega) (by omega)
  obtain ⟨n, hn⟩ := Int.eq_ofNat_of_zero_le v0
  obtain ⟨m, q, hm, q0, q1, hq⟩ := mel_l0 l h n (by omega) n 0 [] (4 + pk l (p + 1) 5) (p + 1 + 1) (by omega) rfl (by omega) (by omega) (by omega) (by omega)
  refine ⟨m, q, by omega, by omega, by omega, fun k hk => ?_⟩
  unfold spec_l91Melody.f
  rw [w0 (i := (a : Int) + 1) (by omega) (by omega), pk_f h p ((a : Int) + 1) k (by omega) (by omega) (by omega) (by omega) (by omega)]
  simp only [Option.bind_some]
  rw [pk_f h (p + 1) 5 k (by omega) (by omega) (by omega) (by omega) (by omega)]
  simp only [Option.bind_some]
  rw [w0 (i := 4 + pk l (p + 1) 5) (by omega) (by omega), hn]
  exact hq k (by omega)
theorem hexall_l0 (a : Int) (b : Bool) : ∀ (d i : Nat) (acc : List Int), i + d = 21 → acc.length ≤ i → ∃ L, L.length ≤ 21 ∧ ∀ k, d + 20 ≤ k → spec_HexAll.l0 k acc (i : Int) a b = some L := by
  intro d
  induction d with
  | zero =>
    intro i acc hi ha
    refine ⟨acc, by omega, fun k hk => ?_⟩
    obtain ⟨k, rfl⟩ : ∃ m, k = m + 1 := ⟨k - 1, by omega⟩
    simp only [spec_HexAll.l0]
    rw [if_neg (by omega)]
  | succ d ih =>
    intro i acc hi ha
    by_cases h : sylF (i : Int) a b ≥ 0
    · obtain ⟨L, hL, hq⟩ := ih (i + 1) (acc ++ [(i : Int)]) (by omega) (by simp; omega)
      refine ⟨L, hL, fun k hk => ?_⟩
      obtain ⟨k, rfl⟩ : ∃ m, k = m + 1 := ⟨k - 1, by omega⟩
      simp only [spec_HexAll.l0]
      rw [if_pos (by omega), syls_f _ _ _ k (by omega), Option.bind_some, if_pos h, if_pos (by omega), w1 (by omega)]
      exact hq k (by omega)
    · obtain ⟨L, hL, hq⟩ := ih (i + 1) acc (by omega) (by omega)
      refine ⟨L, hL, fun k hk => ?_⟩
      obtain ⟨k, rfl⟩ : ∃ m, k = m + 1 := ⟨k - 1, by omega⟩
      simp only [spec_HexAll.l0]
      rw [if_pos (by omega), syls_f _ _ _ k (by omega), Option.bind_some, if_neg h, w1 (by omega)]
      exact hq k (by omega)
theorem hexall_d (a : Int) (b : Bool) : ∃ L, L.length ≤ 21 ∧ ∀ k, 41 ≤ k → spec_HexAll.f k a b = some L := by
  obtain ⟨L, hL, hq⟩ := hexall_l0 a b 21 0 [] rfl (by simp)
  exact ⟨L, hL, fun k hk => by unfold spec_HexAll.f; exact hq k (by omega)⟩
theorem sung_end (l : List Int) (h : Rdr l) (m : List S25) (acc : List Int) (n : Nat) (p : Int) (hm : m.length = n) (ha : acc.length = n) (hn : n ≤ 20) (hp : 0 ≤ p) (hp' : p ≤ 50000) :
    ∃ s q, s.length ≤ n ∧ p ≤ q ∧ q ≤ p + 3 ∧ ∀ k, 2 ≤ k → spec_l91Sung.l0 k m acc (n : Int) l p = some (m, s, q) := by
  by_cases h0 : n = 0
  · refine ⟨acc, p, by omega, by omega, by omega, fun k hk => ?_⟩
    obtain ⟨k, rfl⟩ : ∃ m, k = m + 1 := ⟨k - 1, by omega⟩
    simp only [spec_l91Sung.l0]
    rw [if_neg (by omega), if_neg (by omega)]
  · by_cases h1 : pk l p 16 = 0
    · obtain ⟨x, q, x0, x1, q0, q1, hx⟩ := hex_d h (p + 1) (by omega) (by omega)
      refine ⟨acc.set (0 : Int).toNat x, q, by simp [ha], by omega, by omega, fun k hk => ?_⟩
      obtain ⟨k, rfl⟩ : ∃ m, k = m + 1 := ⟨k - 1, by omega⟩
      simp only [spec_l91Sung.l0]
      rw [if_neg (by omega), if_pos (by omega), pk_f h p 16 k (by omega) (by omega) (by omega) (by omega) (by omega)]
      simp only [Option.bind_some]
      rw [if_pos h1, hx k (by omega)]
      simp only [Option.bind_some]
      rw [if_pos (by omega)]
    · by_cases h2 : pk l p 16 = 1
      · refine ⟨acc.drop (1 : Int).toNat, p + 1, by simp [ha], by omega, by omega, fun k hk => ?_⟩
        obtain ⟨k, rfl⟩ : ∃ m, k = m + 1 := ⟨k - 1, by omega⟩
        simp only [spec_l91Sung.l0]
        rw [if_neg (by omega), if_pos (by omega), pk_f h p 16 k (by omega) (by omega) (by omega) (by omega) (by omega)]
        simp only [Option.bind_some]
        rw [if_neg h1, if_pos h2, if_pos (by omega)]
      · refine ⟨acc, p + 1, by omega, by omega, by omega, fun k hk => ?_⟩
        obtain ⟨k, rfl⟩ : ∃ m, k = m + 1 := ⟨k - 1, by omega⟩
        simp only [spec_l91Sung.l0]
        rw [if_neg (by omega), if_pos (by omega), pk_f h p 16 k (by omega) (by omega) (by omega) (by omega) (by omega)]
        simp only [Option.bind_some]
        rw [if_neg h1, if_neg h2]
theorem sung_l0 (l : List Int) (h : Rdr l) (m : List S25) (n : Nat) (hm : m.length = n) (hn : n ≤ 20) : ∀ (d i : Nat) (acc : List Int) (p : Int), i + d = n → acc.length = i → 0 ≤ p → p ≤ 10000 + i →
    ∃ s q, s.length ≤ n ∧ p ≤ q ∧ q ≤ p + d + 3 ∧ ∀ k, d + 50 ≤ k → spec_l91Sung.l0 k m acc (i : Int) l p = some (m, s, q) := by
  intro d
  induction d with
  | zero =>
    intro i acc p hi ha hp hp'
    have e : i = n := by omega
    subst e
    obtain ⟨s, q, h1, h2, h3, h4⟩ := sung_end l h m acc i p hm ha hn hp (by omega)
    exact ⟨s, q, h1, h2, by omega, fun k hk => h4 k (by omega)⟩
  | succ d ih =>
    intro i acc p hi ha hp hp'
    have hx : i < m.length := by omega
    obtain ⟨L, hL, hq⟩ := hexall_d m[i].f0 m[i].f1
    by_cases h0 : (L.length : Int) = 0
    · obtain ⟨s, q, h1, h2, h3, h4⟩ := ih (i + 1) (acc ++ [3]) p (by omega) (by simp [ha]) hp (by omega)
      refine ⟨s, q, h1, h2, by omega, fun k hk => ?_⟩
      obtain ⟨k, rfl⟩ : ∃ m, k = m + 1 := ⟨k - 1, by omega⟩
      simp only [spec_l91Sung.l0]
      rw [if_pos (by omega), if_pos (by omega), rdt_at m i hx, hq k (by omega), Option.bind_some, if_pos h0, if_pos (by omega), w1 (by omega)]
      exact h4 k (by omega)
    · obtain ⟨v0, v1⟩ := pk_bd h p (L.length : Int) (by omega) (by omega) (by omega) (by omega)
      obtain ⟨s, q, h1, h2, h3, h4⟩ := ih (i + 1) (acc ++ [rd L (pk l p (L.length : Int))]) (p + 1) (by omega) (by simp [ha]) (by omega) (by omega)
      refine ⟨s, q, h1, by omega, by omega, fun k hk => ?_⟩
      obtain ⟨k, rfl⟩ : ∃ m, k = m + 1 := ⟨k - 1, by omega⟩
      simp only [spec_l91Sung.l0]
      rw [if_pos (by omega), if_pos (by omega), rdt_at m i hx, hq k (by omega), Option.bind_some, if_neg h0, pk_f h p (L.length : Int) k (by omega) (by omega) (by omega) (by omega) (by omega)]
      simp only [Option.bind_some]
      rw [if_pos v0, if_pos v1, if_pos (by omega), w1 (by omega)]
      exact h4 k (by omega)
theorem sung_d (l : List Int) (h : Rdr l) (p : Int) (hp : 0 ≤ p) (hp' : p ≤ 4000) : ∃ m s q, m.length ≤ 8 ∧ s.length ≤ 8 ∧ p ≤ q ∧ q ≤ p + 200 ∧ ∀ k, 100 ≤ k → spec_l91Sung.f k l p = some (m, s, q) := by
  obtain ⟨m, q, hm, q0, q1, hq⟩ := mel_d l h p 8 (by omega) hp (by omega)
  obtain ⟨s, q', hs, r0, r1, hr⟩ := sung_l0 l h m m.length rfl (by omega) m.length 0 [] q (by omega) rfl (by omega) (by omega)
  refine ⟨m, s, q', hm, by omega, by omega, by omega, fun k hk => ?_⟩
  have hq' := hq k (by omega)
  rw [show ((8 : Nat) : Int) = 8 from rfl] at hq'
  unfold spec_l91Sung.f
  rw [hq']
  simp only [Option.bind_some]
  exact hr k (by omega)
def cnt : Int → List Int → Int
  | _, [] => 0
  | x, y :: t => (if y = x then 0 else 1) + cnt y t
def MU : List Int → Int
  | [] => 0
  | x :: t => cnt x t
theorem cnt_split : ∀ (j : Nat) (s : List Int) (x : Int), j < s.length → cnt x s = cnt x (s.take j) + (if s.getD j 0 = (x :: s).getD j 0 then 0 else 1) + cnt (s.getD j 0) (s.drop (j + 1)) := by
  intro j
  induction j with
  | zero =>
    intro s x h
    match s, h with
    | y :: t, _ => simp [cnt]
  | succ j ih =>
    intro s x h
    match s, h with
    | y :: t, h =>
      have := ih t y (by simpa using h)
      simp only [List.take_succ_cons, cnt, List.getD_cons_succ, List.drop_succ_cons]
      omega
theorem MU_split (s : List Int) (j : Nat) (h0 : 0 < j) (h1 : j < s.length) : MU s = MU (s.take j) + MU (s.drop j) + (if s.getD j 0 = s.getD (j - 1) 0 then 0 else 1) := by
  match s, j, h0, h1 with
  | x :: t, i + 1, _, h1 =>
    have hi : i < t.length := by simpa using h1
    have := cnt_split i t x hi
    have e : t.drop i = t.getD i 0 :: t.drop (i + 1) := by
      rw [List.drop_eq_getElem_cons hi, List.getD_eq_getElem?_getD, List.getElem?_eq_getElem hi]
      rfl
    simp only [List.take_succ_cons, List.drop_succ_cons, MU, List.getD_cons_succ, Nat.add_sub_cancel]
    rw [e]
    simp only
    omega
theorem cnt_bd (s : List Int) : ∀ x, 0 ≤ cnt x s ∧ cnt x s ≤ s.length := by
  induction s with
  | nil => intro x; simp [cnt]
  | cons y t ih =>
    intro x
    have := ih y
    simp only [cnt, List.length_cons]
    split <;> omega
theorem MU_bd (s : List Int) : 0 ≤ MU s ∧ MU s ≤ s.length := by
  cases s with
  | nil => simp [MU]
  | cons x t => have := cnt_bd t x; simp only [MU, List.length_cons]; omega
theorem mui_l0 (s : List Int) (hb : s.length ≤ 1048576) : ∀ (d i k : Nat) (c : Int), i + d = s.length → d < k → 1 ≤ i → 0 ≤ c → c ≤ i → impl_SingMutations.l0 k s c (i : Int) = some (c + cnt (s.getD (i - 1) 0) (s.drop i)) := by
  intro d
  induction d with
  | zero =>
    intro i k c hi hk h1 h2 h3
    obtain ⟨k, rfl⟩ : ∃ m, k = m + 1 := ⟨k - 1, by omega⟩
    simp only [impl_SingMutations.l0]
    rw [if_neg (by omega), List.drop_eq_nil_of_le (by omega)]
    simp [cnt]
  | succ d ih =>
    intro i k c hi hk h1 h2 h3
    obtain ⟨k, rfl⟩ : ∃ m, k = m + 1 := ⟨k - 1, by omega⟩
    have hx : i < s.length := by omega
    have hy : i - 1 < s.length := by omega
    have e : wrap64 ((i : Int) - 1) = ((i - 1 : Nat) : Int) := by rw [w0 (by omega) (by omega)]; omega
    have ei : s.getD i 0 = s[i] := by rw [List.getD_eq_getElem?_getD, List.getElem?_eq_getElem hx]; rfl
    have ej : s.getD (i - 1) 0 = s[i - 1] := by rw [List.getD_eq_getElem?_getD, List.getElem?_eq_getElem hy]; rfl
    simp only [impl_SingMutations.l0]
    rw [e, if_pos (by omega), if_pos (by omega), if_pos (by omega), if_pos (by omega), rd_at s i hx, rd_at s (i - 1) hy, w1 (by omega), w0 (i := c + 1) (by omega) (by omega), ej, List.drop_eq_getElem_cons hx]
    have key := fun c h2 h3 => ih (i + 1) k c (by omega) (by omega) (by omega) h2 h3
    rw [Nat.add_sub_cancel, ei] at key
    simp only [cnt]
    by_cases h : s[i] = s[i - 1]
    · rw [if_pos h, if_pos h, key c (by omega) (by omega), Int.zero_add]
    · rw [if_neg h, if_neg h, key (c + 1) (by omega) (by omega), Int.add_assoc]
theorem mui_f (l : List S25) (s : List Int) (k : Nat) (hk : 60 ≤ k) : impl_SingMutations.f k l s = some (if SO l s = true then MU s else -1) := by
  unfold impl_SingMutations.f
  rw [soi_f l s k (by omega), Option.bind_some]
  by_cases h : SO l s = true
  · obtain ⟨h1, h2⟩ := SO_len h
    rw [if_pos h, if_pos h]
    cases s with
    | nil =>
      obtain ⟨k, rfl⟩ : ∃ m, k = m + 1 := ⟨k - 1, by omega⟩
      simp only [impl_SingMutations.l0]
      rw [if_neg (by simp)]
      rfl
    | cons x t =>
      have := mui_l0 (x :: t) (by omega) t.length 1 k 0 (by simp; omega) (by simp at h2; omega) (by omega) (by omega) (by omega)
      rw [show ((1 : Nat) : Int) = 1 from rfl] at this
      rw [this, Int.zero_add]
      rfl
  · rw [if_neg h, if_neg h]
theorem SG_take : ∀ (l : List S25) (s : List Int) (j : Nat), SG l s = true → SG (l.take j) (s.take j) = true
  | [], s, j, _ => by simp [SG]
  | t :: l, [], j, _ => by simp [SG]
  | t :: l, x :: s, 0, _ => by simp [SG]
  | t :: l, x :: s, j + 1, h => by
    simp only [List.take_succ_cons, SG] at h ⊢
    split at h
    · exact absurd h (by decide)
    · rename_i h1
      rw [if_neg h1]
      exact SG_take l s j h
theorem SG_drop : ∀ (l : List S25) (s : List Int) (j : Nat), SG l s = true → SG (l.drop j) (s.drop j) = true
  | [], s, j, _ => by simp [SG]
  | t :: l, [], j, _ => by cases h : (t :: l).drop j <;> simp [SG]
  | t :: l, x :: s, 0, h => by simpa using h
  | t :: l, x :: s, j + 1, h => by
    simp only [List.drop_succ_cons]
    simp only [SG] at h
    split at h
    · exact absurd h (by decide)
    · exact SG_drop l s j h
theorem SO_cut {l : List S25} {s : List Int} (j : Nat) (h : SO l s = true) : SO (l.take j) (s.take j) = true ∧ SO (l.drop j) (s.drop j) = true := by
  unfold SO MV at h ⊢
  simp only [Bool.and_eq_true, decide_eq_true_eq] at h ⊢
  obtain ⟨⟨h1, h2⟩, h3, h4⟩ := h
  rw [List.all_eq_true] at h2
  refine ⟨⟨⟨by simp; omega, List.all_eq_true.2 fun x hx => h2 x (List.mem_of_mem_take hx)⟩, by simp; omega, SG_take l s j h4⟩, ⟨⟨by simp; omega, List.all_eq_true.2 fun x hx => h2 x (List.mem_of_mem_drop hx)⟩, by simp; omega, SG_drop l s j h4⟩⟩
theorem FnSingMutations : ∀ (l0 l1 : List Int), l0.length ≤ maxLen → l0.length * 1 ≤ 140737488351232 → (∀ n ∈ l0, (Lit.int .u8 n).wf = true) → l1.length ≤ maxLen → l1.length * 1 ≤ 140737488351232 → (∀ n ∈ l1, (Lit.int .u8 n).wf = true) → ∃ k, laws_FnSingMutations.f k l0 l1 = some true := by
  intro l0 l1 z1 z2 hw z3 z4 z5
  refine ⟨304, ?_⟩
  have key : laws_FnSingMutations.j0 304 l0 l1 true = some true := by rw [laws_FnSingMutations.j0, if_pos rfl]
  unfold laws_FnSingMutations.f
  by_cases h : (l0.length : Int) > 1048576
  · rw [if_pos h]
    exact key
  · rw [if_neg h]
    by_cases h2 : (l1.length : Int) > 1048576
    · rw [decide_eq_true h2]
      exact key
    · rw [decide_eq_false h2]
      clear key
      obtain ⟨o, ho, hR⟩ := open_f l0 (bytes_of hw)
      obtain ⟨m, s, q, hm, hs, q0, q1, hq⟩ := sung_d o hR 0 (by omega) (by omega)
      have hd : spec_DrawSingMutations.f 303 l0 = some (m, s) := by
        unfold spec_DrawSingMutations.f
        rw [ho]
        simp only [Option.bind_some]
        rw [hq 303 (by omega)]
        rfl
      obtain ⟨r, hr1, hr2⟩ := mut_same m s 303 (by omega) (by omega)
      rw [mui_f m s 303 (by omega)] at hr2
      have hr := Option.some.inj hr2
      rw [laws_FnSingMutations.j0, if_neg (by decide), hd]
      simp only [Option.bind_some]
      rw [mui_f m s 303 (by omega), Option.bind_some, hr1, Option.bind_some, hr, if_pos rfl, laws_FnSingMutations.j1]
      by_cases hk : SO m s = true
      · rw [if_pos hk] at hr
        obtain ⟨g1, g2⟩ := SO_len hk
        have hbd := MU_bd s
        rw [if_neg (by simp; omega), w0 (i := (m.length : Int) + 1) (by omega) (by omega), if_neg (by omega)]
        obtain ⟨j, hj⟩ := Int.eq_ofNat_of_zero_le (show 0 ≤ (l1.length : Int) % ((m.length : Int) + 1) from Int.emod_nonneg _ (by omega))
        have hj2 : (l1.length : Int) % ((m.length : Int) + 1) < (m.length : Int) + 1 := Int.emod_lt_of_pos _ (by omega)
        rw [hj] at hj2 ⊢
        obtain ⟨c1, c2⟩ := SO_cut j hk
        have b1 := MU_bd (s.take j)
        have b2 := MU_bd (s.drop j)
        simp only [List.length_take, List.length_drop] at b1 b2
        rw [if_pos (by omega), if_pos (by omega), if_pos (by omega), Int.toNat_natCast, mui_f _ _ 302 (by omega), if_pos c1, Option.bind_some, mui_f _ _ 302 (by omega), if_pos c2, Option.bind_some]
        by_cases hj0 : (j : Int) > 0
        · rw [if_pos hj0]
          by_cases hj3 : (j : Int) < (m.length : Int)
          · have e : wrap64 ((j : Int) - 1) = ((j - 1 : Nat) : Int) := by rw [w0 (by omega) (by omega)]; omega
            have hx : j < s.length := by omega
            have hy : j - 1 < s.length := by omega
            have ei : s.getD j 0 = s[j] := by rw [List.getD_eq_getElem?_getD, List.getElem?_eq_getElem hx]; rfl
            have ej : s.getD (j - 1) 0 = s[j - 1] := by rw [List.getD_eq_getElem?_getD, List.getElem?_eq_getElem hy]; rfl
            have hsp := MU_split s j (by omega) hx
            rw [ei, ej] at hsp
            rw [if_pos hj3, e, if_pos (by omega), if_pos (by omega), if_pos (by omega), rd_at s (j - 1) hy, rd_at s j hx]
            by_cases hh : s[j] = s[j - 1]
            · rw [if_pos hh] at hsp
              rw [if_pos hh.symm, w0 (by omega) (by omega)]
              congr 1
              rw [beq_iff_eq]
              omega
            · rw [if_neg hh] at hsp
              rw [if_neg (fun z => hh z.symm), w0 (i := MU (s.take j) + MU (s.drop j)) (by omega) (by omega), w0 (by omega) (by omega)]
              congr 1
              rw [beq_iff_eq]
              omega
          · have e1 : s.take j = s := List.take_of_length_le (by omega)
            have e2 : s.drop j = [] := List.drop_eq_nil_of_le (by omega)
            have e3 : MU ([] : List Int) = 0 := rfl
            rw [if_neg hj3, e1, e2, e3, w0 (by omega) (by omega)]
            congr 1
            rw [beq_iff_eq]
            omega
        · have e0 : j = 0 := by omega
          subst e0
          rw [if_neg hj0, w0 (by omega) (by omega)]
          congr 1
          rw [beq_iff_eq, List.take_zero, List.drop_zero, show MU ([] : List Int) = 0 from rfl]
          omega
      · rw [if_neg hk] at hr
        subst hr
        rfl

end Go.Proofs.YtjefoedojglhpaaDoor.PureFnSingMutations
