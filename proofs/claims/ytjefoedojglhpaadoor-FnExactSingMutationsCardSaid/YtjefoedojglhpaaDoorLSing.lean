import Derived.Test.YtjefoedojglhpaaDoorLBase
import Derived.Test.YtjefoedojglhpaaDoorLHex
import Derived.Test.YtjefoedojglhpaaDoorLMelody
import Derived.Test.YtjefoedojglhpaaDoorGx15
import Derived.Test.YtjefoedojglhpaaDoorGx17
import Derived.Test.YtjefoedojglhpaaDoorGx20
namespace Go.Proofs.YtjefoedojglhpaaDoor.LSing
open Go.RowKit Go.Proofs.YtjefoedojglhpaaDoor.G Go.Proofs.YtjefoedojglhpaaDoorW.PrintWords Go.Proofs.YtjefoedojglhpaaDoorW.PrintLast Go.Proofs.YtjefoedojglhpaaDoorW.PrintMore Go.Proofs.YtjefoedojglhpaaDoor.LBase Go.Proofs.YtjefoedojglhpaaDoor.LHex Go.Proofs.YtjefoedojglhpaaDoor.LMelody
set_option linter.unusedVariables false
set_option linter.unusedSimpArgs false
def sylF (a0 a1 : Int) (b1 : Bool) : Int := (impl_HexSyllable.f a0 a1 b1).getD 0
theorem syls_f (a0 a1 : Int) (b1 : Bool) (k : Nat) (hk : 7 ≤ k) : spec_HexSyllable.f k a0 a1 b1 = some (sylF a0 a1 b1) := by
  obtain ⟨s, h1, h2, _⟩ := syl_same a0 a1 b1 (k - 7)
  rw [show k - 7 + 7 = k by omega] at h1
  unfold sylF
  rw [h1, h2]
  rfl
theorem syli_f (a0 a1 : Int) (b1 : Bool) : impl_HexSyllable.f a0 a1 b1 = some (sylF a0 a1 b1) := by
  obtain ⟨s, h1, h2, _⟩ := syl_same a0 a1 b1 0
  unfold sylF
  rw [h2]
  rfl
theorem syl_bd (a0 a1 : Int) (b1 : Bool) : -1 ≤ sylF a0 a1 b1 ∧ sylF a0 a1 b1 ≤ 5 := by
  obtain ⟨s, h1, h2, h3, h4⟩ := syl_same a0 a1 b1 0
  unfold sylF
  rw [h2]
  exact ⟨h3, h4⟩
/-- The steps fit the tones. -/
def SG : List S25 → List Int → Bool
  | t :: l, x :: s => if sylF x t.f0 t.f1 < 0 then false else SG l s
  | _, _ => true
theorem sos_l0 (l : List S25) (s : List Int) (hs : s.length = l.length) (hb : l.length < 4611686018427387904) : ∀ (d i k : Nat), i + d = l.length → d + 8 < k → spec_SingOk.l0 k l s (i : Int) = some (SG (l.drop i) (s.drop i)) := by
  intro d
  induction d with
  | zero =>
    intro i k hi hk
    obtain ⟨k, rfl⟩ : ∃ m, k = m + 1 := ⟨k - 1, by omega⟩
    simp only [spec_SingOk.l0]
    rw [if_neg (by omega), List.drop_eq_nil_of_le (by omega)]
    simp [SG]
  | succ d ih =>
    intro i k hi hk
    obtain ⟨k, rfl⟩ : ∃ m, k = m + 1 := ⟨k - 1, by omega⟩
    have hx : i < l.length := by omega
    have hy : i < s.length := by omega
    simp only [spec_SingOk.l0]
    rw [if_pos (by omega), if_pos (by omega), if_pos (by omega), rdt_at l i hx, rd_at s i hy, syls_f _ _ _ k (by omega), Option.bind_some, List.drop_eq_getElem_cons hx, List.drop_eq_getElem_cons hy]
    unfold SG
    by_cases h : sylF s[i] l[i].f0 l[i].f1 < 0
    · rw [if_pos h, if_pos h]
    · rw [if_neg h, if_neg h, w1 (by omega)]
      exact ih (i + 1) k (by omega) (by omega)
theorem soi_l0 (l : List S25) (s : List Int) (hs : s.length = l.length) (hb : l.length < 4611686018427387904) : ∀ (d i k : Nat), i + d = l.length → d < k → impl_SingOk.l0 k s l (l.length : Int) (i : Int) = some (SG (l.drop i) (s.drop i)) := by
  intro d
  induction d with
  | zero =>
    intro i k hi hk
    obtain ⟨k, rfl⟩ : ∃ m, k = m + 1 := ⟨k - 1, by omega⟩
    simp only [impl_SingOk.l0]
    rw [if_neg (by omega), List.drop_eq_nil_of_le (by omega)]
    simp [SG]
  | succ d ih =>
    intro i k hi hk
    obtain ⟨k, rfl⟩ : ∃ m, k = m + 1 := ⟨k - 1, by omega⟩
    have hx : i < l.length := by omega
    have hy : i < s.length := by omega
    simp only [impl_SingOk.l0]
    rw [if_pos (by omega), if_pos (by omega), if_pos (by omega), if_pos (by omega), rdt_at l i hx, rd_at s i hy, syli_f, Option.bind_some, List.drop_eq_getElem_cons hx, List.drop_eq_getElem_cons hy]
    unfold SG
    by_cases h : sylF s[i] l[i].f0 l[i].f1 < 0
    · rw [if_pos h, if_pos h]
    · rw [if_neg h, if_neg h, w1 (by omega)]
      exact ih (i + 1) k (by omega) (by omega)
def SO (l : List S25) (s : List Int) : Bool := MV l && (decide (s.length = l.length) && SG l s)
theorem sos_f (l : List S25) (s : List Int) (k : Nat) (hb : l.length ≤ 1048576) (hk : l.length + 10 < k) : spec_SingOk.f k l s = some (SO l s) := by
  unfold spec_SingOk.f SO
  rw [mvs_f l hb k (by omega), Option.bind_some]
  obtain ⟨k, rfl⟩ : ∃ m, k = m + 1 := ⟨k - 1, by omega⟩
  cases MV l with
  | false => rfl
  | true =>
    rw [if_pos rfl, Bool.true_and]
    rw [spec_SingOk.j0]
    by_cases h : s.length = l.length
    · rw [if_neg (by simp; omega), decide_eq_true h, Bool.true_and]
      simpa using sos_l0 l s h (by omega) l.length 0 k (by omega) (by omega)
    · rw [if_pos (by simp; omega), decide_eq_false h, Bool.false_and]
theorem soi_f (l : List S25) (s : List Int) (k : Nat) (hk : 27 ≤ k) : impl_SingOk.f k l s = some (SO l s) := by
  unfold impl_SingOk.f SO
  rw [mvi_f l k (by omega), Option.bind_some]
  obtain ⟨k, rfl⟩ : ∃ m, k = m + 1 := ⟨k - 1, by omega⟩
  cases hM : MV l with
  | false => rfl
  | true =>
    have hl : l.length ≤ 24 := by
      unfold MV at hM
      rw [Bool.and_eq_true] at hM
      exact of_decide_eq_true hM.1
    rw [if_pos rfl, Bool.true_and]
    rw [impl_SingOk.j0]
    by_cases h : s.length = l.length
    · rw [if_neg (by simp; omega), decide_eq_true h, Bool.true_and]
      simpa using soi_l0 l s h (by omega) l.length 0 k (by omega) (by omega)
    · rw [if_pos (by simp; omega), decide_eq_false h, Bool.false_and]
theorem SO_len {l : List S25} {s : List Int} (h : SO l s = true) : l.length ≤ 24 ∧ s.length = l.length := by
  unfold SO MV at h
  simp only [Bool.and_eq_true, decide_eq_true_eq] at h
  exact ⟨h.1.1, h.2.1⟩
/-- The mutations from the i-th step on. -/
theorem mut_l0 (s : List Int) (hb : s.length ≤ 1048576) : ∀ (d i k : Nat) (c : Int), i + d = s.length → d < k → 1 ≤ i → 0 ≤ c → c ≤ i → ∃ r, spec_SingMutations.l0 k s c (i : Int) = some r ∧ impl_SingMutations.l0 k s c (i : Int) = some r := by
  intro d
  induction d with
  | zero =>
    intro i k c hi hk h1 h2 h3
    obtain ⟨k, rfl⟩ : ∃ m, k = m + 1 := ⟨k - 1, by omega⟩
    refine ⟨c, ?_, ?_⟩
    · simp only [spec_SingMutations.l0]
      rw [if_neg (by omega)]
    · simp only [impl_SingMutations.l0]
      rw [if_neg (by omega)]
  | succ d ih =>
    intro i k c hi hk h1 h2 h3
    obtain ⟨k, rfl⟩ : ∃ m, k = m + 1 := ⟨k - 1, by omega⟩
    have e : wrap64 ((i : Int) - 1) = ((i - 1 : Nat) : Int) := by rw [w0 (by omega) (by omega)]; omega
    simp only [spec_SingMutations.l0, impl_SingMutations.l0]
    have c1 : (i : Int) < (s.length : Int) := by omega
    have c2 : (0 : Int) ≤ (i : Int) := by omega
    have c3 : (0 : Int) ≤ ((i - 1 : Nat) : Int) := by omega
    have c4 : ((i - 1 : Nat) : Int) < (s.length : Int) := by omega
    simp only [e, c1, c2, c3, c4, if_true]
    rw [w1 (by omega), w0 (i := c + 1) (by omega) (by omega)]
    by_cases h : rd s (i : Int) = rd s ((i - 1 : Nat) : Int)
    · rw [if_pos h, if_pos h]
      exact ih (i + 1) k c (by omega) (by omega) (by omega) (by omega) (by omega)
    · rw [if_neg h, if_neg h]
      exact ih (i + 1) k (c + 1) (by omega) (by omega) (by omega) (by omega) (by omega)
theorem mut_same (l : List S25) (s : List Int) (k : Nat) (hb : l.length ≤ 1048576) (hk : l.length + 30 < k) : ∃ r, spec_SingMutations.f k l s = some r ∧ impl_SingMutations.f k l s = some r := by
  unfold spec_SingMutations.f impl_SingMutations.f
  rw [sos_f l s k hb (by omega), soi_f l s k (by omega), Option.bind_some, Option.bind_some]
  cases h : SO l s with
  | false => exact ⟨-1, rfl, rfl⟩
  | true =>
    obtain ⟨h1, h2⟩ := SO_len h
    rw [if_pos rfl, if_pos rfl]
    cases hs : s.length with
    | zero =>
      obtain ⟨k, rfl⟩ : ∃ m, k = m + 1 := ⟨k - 1, by omega⟩
      refine ⟨0, ?_, ?_⟩
      · simp only [spec_SingMutations.l0]
        rw [if_neg (by omega)]
      · simp only [impl_SingMutations.l0]
        rw [if_neg (by omega)]
    | succ n => simpa using mut_l0 s (by omega) n 1 k 0 (by omega) (by omega) (by omega) (by omega) (by omega)

end Go.Proofs.YtjefoedojglhpaaDoor.LSing
