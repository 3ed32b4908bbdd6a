import Derived.Test.YtgiobmceippanaaLBase
import Derived.Test.YtgiobmceippanaaLTone
import Derived.Test.YtgiobmceippanaaLVoice
import Derived.Test.YtgiobmceippanaaLMelody
import Derived.Test.YtgiobmceippanaaGx23
import Derived.Test.YtgiobmceippanaaGx21
namespace Go.Proofs.Ytgiobmceippanaa.LPartMake
open Go.RowKit Go.Proofs.Ytgiobmceippanaa.G Go.Proofs.YtgiobmceippanaaW.PrintWords Go.Proofs.YtgiobmceippanaaW.PrintLast Go.Proofs.YtgiobmceippanaaW.PrintMore Go.Proofs.Ytgiobmceippanaa.LBase Go.Proofs.Ytgiobmceippanaa.LTone Go.Proofs.Ytgiobmceippanaa.LVoice Go.Proofs.Ytgiobmceippanaa.LMelody
set_option linter.unusedVariables false
set_option linter.unusedSimpArgs false
def mkv (t : S43) (b : Int) : S61 := ⟨⟨t.f0, t.f1⟩, b⟩
def fin (p : List S61) : List S61 × Bool := if PV p = true then (p, true) else ([], false)
def PM (l : List S43) (s : List Int) : List S61 × Bool := if MV l = true then (if s.length = l.length then fin (List.zipWith mkv l s) else ([], false)) else ([], false)
theorem pms_l0 (l : List S43) (s : List Int) (hs : s.length = l.length) (hl : l.length ≤ 24) : ∀ (d i k : Nat) (acc : List S61), i + d = l.length → acc.length = i → d + 60 < k →
    spec_PartMake.l0 k l s acc (i : Int) = some (fin (acc ++ List.zipWith mkv (l.drop i) (s.drop i))) := by
  intro d
  induction d with
  | zero =>
    intro i k acc hi ha hk
    obtain ⟨k, rfl⟩ : ∃ m, k = m + 1 := ⟨k - 1, by omega⟩
    simp only [spec_PartMake.l0]
    rw [if_neg (by omega), pvs_f acc (by omega) k (by omega), List.drop_eq_nil_of_le (by omega), Option.bind_some, List.zipWith_nil_left, List.append_nil]
    unfold fin
    split <;> rfl
  | succ d ih =>
    intro i k acc hi ha hk
    obtain ⟨k, rfl⟩ : ∃ m, k = m + 1 := ⟨k - 1, by omega⟩
    have hx : i < l.length := by omega
    have hy : i < s.length := by omega
    simp only [spec_PartMake.l0]
    rw [if_pos (by omega), if_pos (by omega), if_pos (by omega), if_pos (by omega), rdt_at l i hx, rd_at s i hy, w1 (by omega), List.drop_eq_getElem_cons hx, List.drop_eq_getElem_cons hy, List.zipWith_cons_cons]
    have := ih (i + 1) k (acc ++ [mkv l[i] s[i]]) (by omega) (by simp [ha]) (by omega)
    rw [List.append_assoc, List.singleton_append] at this
    exact this
theorem pmi_l0 (l : List S43) (s : List Int) (hs : s.length = l.length) (hl : l.length ≤ 24) : ∀ (d i k : Nat) (acc : List S61), i + d = l.length → acc.length = i → d + 60 < k →
    impl_PartMake.l0 k s acc l (l.length : Int) (i : Int) = some (fin (acc ++ List.zipWith mkv (l.drop i) (s.drop i))) := by
  intro d
  induction d with
  | zero =>
    intro i k acc hi ha hk
    obtain ⟨k, rfl⟩ : ∃ m, k = m + 1 := ⟨k - 1, by omega⟩
    simp only [impl_PartMake.l0]
    rw [if_neg (by omega), pvi_f acc k (by omega), List.drop_eq_nil_of_le (by omega), Option.bind_some, List.zipWith_nil_left, List.append_nil]
    unfold fin
    split <;> rfl
  | succ d ih =>
    intro i k acc hi ha hk
    obtain ⟨k, rfl⟩ : ∃ m, k = m + 1 := ⟨k - 1, by omega⟩
    have hx : i < l.length := by omega
    have hy : i < s.length := by omega
    simp only [impl_PartMake.l0]
    rw [if_pos (by omega), if_pos (by omega), if_pos (by omega), if_pos (by omega), if_pos (by omega), rdt_at l i hx, rd_at s i hy, w1 (by omega), List.drop_eq_getElem_cons hx, List.drop_eq_getElem_cons hy, List.zipWith_cons_cons]
    have := ih (i + 1) k (acc ++ [mkv l[i] s[i]]) (by omega) (by simp [ha]) (by omega)
    rw [List.append_assoc, List.singleton_append] at this
    exact this
theorem MV_len {l : List S43} (h : MV l = true) : l.length ≤ 24 := by
  unfold MV at h
  simp only [Bool.and_eq_true, decide_eq_true_eq] at h
  exact h.1
theorem pms_f (l : List S43) (s : List Int) (k : Nat) (hb : l.length ≤ 1048576) (hk : l.length + 100 < k) : spec_PartMake.f k l s = some (PM l s) := by
  unfold spec_PartMake.f PM
  simp only [Option.bind_some]
  rw [mvs_f l hb k (by omega), Option.bind_some]
  obtain ⟨k, rfl⟩ : ∃ m, k = m + 1 := ⟨k - 1, by omega⟩
  by_cases hM : MV l = true
  · rw [if_pos hM, if_pos hM, spec_PartMake.j0]
    by_cases h : s.length = l.length
    · rw [if_neg (by simp; omega), if_pos h]
      simpa using pms_l0 l s h (MV_len hM) l.length 0 k [] (by omega) rfl (by omega)
    · rw [if_pos (by simp; omega), if_neg h]
  · rw [if_neg hM, if_neg hM, spec_PartMake.j0, if_pos rfl]
theorem pmi_f (l : List S43) (s : List Int) (k : Nat) (hk : 100 ≤ k) : impl_PartMake.f k l s = some (PM l s) := by
  unfold impl_PartMake.f PM
  rw [mvi_f l k (by omega), Option.bind_some]
  obtain ⟨k, rfl⟩ : ∃ m, k = m + 1 := ⟨k - 1, by omega⟩
  by_cases hM : MV l = true
  · have hl := MV_len hM
    rw [if_pos hM, if_pos hM, impl_PartMake.j0]
    by_cases h : s.length = l.length
    · rw [if_neg (by simp; omega), if_pos h]
      simpa using pmi_l0 l s h (MV_len hM) l.length 0 k [] (by omega) rfl (by omega)
    · rw [if_pos (by simp; omega), if_neg h]
  · rw [if_neg hM, if_neg hM, impl_PartMake.j0, if_pos rfl]
theorem PM_len (l : List S43) (s : List Int) : (PM l s).1.length ≤ 24 := by
  unfold PM fin
  split
  · rename_i h
    have := MV_len h
    split
    · split
      · simp; omega
      · simp
    · simp
  · simp

end Go.Proofs.Ytgiobmceippanaa.LPartMake
