import Derived.Test.YtgiobmceippanaaLBase
import Derived.Test.YtgiobmceippanaaLVoice
import Derived.Test.YtgiobmceippanaaLVoice2
import Derived.Test.YtgiobmceippanaaGx6
import Derived.Test.YtgiobmceippanaaGx4
namespace Go.Proofs.Ytgiobmceippanaa.LSounds
open Go.RowKit Go.Proofs.Ytgiobmceippanaa.G Go.Proofs.YtgiobmceippanaaW.PrintWords Go.Proofs.YtgiobmceippanaaW.PrintLast Go.Proofs.YtgiobmceippanaaW.PrintMore Go.Proofs.Ytgiobmceippanaa.LBase Go.Proofs.Ytgiobmceippanaa.LVoice Go.Proofs.Ytgiobmceippanaa.LVoice2
set_option linter.unusedVariables false
set_option linter.unusedSimpArgs false
def TG (l0 l1 : List S61) : Bool := PV l0 && (PV l1 && decide (sumB l0 = sumB l1))
theorem TG_0 {l0 l1 : List S61} (h : TG l0 l1 = true) : PV l0 = true := by
  unfold TG at h
  simp only [Bool.and_eq_true] at h
  exact h.1
theorem TG_1 {l0 l1 : List S61} (h : TG l0 l1 = true) : PV l1 = true := by
  unfold TG at h
  simp only [Bool.and_eq_true] at h
  exact h.2.1
theorem TG_2 {l0 l1 : List S61} (h : TG l0 l1 = true) : sumB l0 = sumB l1 := by
  unfold TG at h
  simp only [Bool.and_eq_true, decide_eq_true_eq] at h
  exact h.2.2
def PS (l0 l1 : List S61) : List S72 := pairs (expand l0) (expand l1)
theorem so_f (l0 l1 : List S61) (k : Nat) (hk : 13 ≤ k) : impl_soundsOf.f k l0 l1 = some (if TG l0 l1 = true then (PS l0 l1, true) else ([], false)) := by
  unfold impl_soundsOf.f
  rw [pvi_f l0 k hk, pvi_f l1 k hk]
  simp only [Option.bind_some]
  congr 1
  by_cases h0 : PV l0 = true
  · by_cases h1 : PV l1 = true
    · have e0 := expand_sum l0 (PV_all h0)
      have e1 := expand_sum l1 (PV_all h1)
      by_cases h2 : sumB l0 = sumB l1
      · rw [if_pos ⟨h0, h1, by omega⟩, if_pos (by unfold TG; rw [h0, h1, decide_eq_true h2]; rfl)]
        rfl
      · rw [if_neg (fun z => h2 (by omega)), if_neg (by unfold TG; rw [h0, h1, decide_eq_false h2]; simp)]
    · rw [if_neg (fun z => h1 z.2.1), if_neg (fun z => h1 (TG_1 z))]
  · rw [if_neg (fun z => h0 z.1), if_neg (fun z => h0 (TG_0 z))]
theorem tg_f (l0 l1 : List S61) (hb0 : l0.length ≤ 1048576) (hb1 : l1.length ≤ 1048576) (k : Nat) (hk : l0.length + l1.length + 15 < k) : spec_DiscantTogether.f k l0 l1 = some (TG l0 l1) := by
  unfold spec_DiscantTogether.f
  rw [pbs_f l0 hb0 k (by omega), pbs_f l1 hb1 k (by omega)]
  simp only [Option.bind_some]
  unfold PB TG
  by_cases h0 : PV l0 = true
  · have b0 := (sumB_bd l0 (PV_all h0)).1
    rw [if_pos h0, if_pos (by omega), h0, Bool.true_and]
    by_cases h1 : PV l1 = true
    · rw [if_pos h1, h1, Bool.true_and]
      rfl
    · rw [if_neg h1, Bool.eq_false_iff.mpr h1, Bool.false_and]
      congr 1
      rw [beq_eq_false_iff_ne]
      omega
  · rw [if_neg h0, if_neg (by omega), Bool.eq_false_iff.mpr h0]
    rfl
theorem PS_len {l0 l1 : List S61} (h : TG l0 l1 = true) : ((PS l0 l1).length : Int) = sumB l0 := by
  have e0 := expand_sum l0 (PV_all (TG_0 h))
  have e1 := expand_sum l1 (PV_all (TG_1 h))
  have e2 := TG_2 h
  unfold PS pairs
  rw [List.length_zipWith]
  omega
theorem PS_bd {l0 l1 : List S61} (h : TG l0 l1 = true) : (PS l0 l1).length ≤ 24 := by
  have e0 := PS_len h
  have := PV_sum (TG_0 h)
  omega
theorem rdp_at (xs : List S72) (i : Nat) (h : i < xs.length) : rd_T72 xs (i : Int) = xs[i] := by
  simp [rd_T72, List.getD_eq_getElem?_getD, h]
theorem PS_at {l0 l1 : List S61} (h : TG l0 l1 = true) (b : Nat) (hb : b < (PS l0 l1).length) (k : Nat) (hk : 12 ≤ k) : spec_l8At.f k l0 (b : Int) = some ((PS l0 l1)[b].f0.f0, (PS l0 l1)[b].f0.f1) ∧ spec_l8At.f k l1 (b : Int) = some ((PS l0 l1)[b].f1.f0, (PS l0 l1)[b].f1.f1) := by
  have e0 := expand_sum l0 (PV_all (TG_0 h))
  have e1 := expand_sum l1 (PV_all (TG_1 h))
  have e2 := TG_2 h
  have e3 := PS_len h
  have h0 : b < (expand l0).length := by omega
  have h1 : b < (expand l1).length := by omega
  rw [at_f l0 (PV_all (TG_0 h)) (PV_len (TG_0 h)) b k hk (by omega) (by omega), at_f l1 (PV_all (TG_1 h)) (PV_len (TG_1 h)) b k hk (by omega) (by omega)]
  have g0 : (PS l0 l1)[b].f0 = (expand l0)[b] := by simp [PS, pairs]
  have g1 : (PS l0 l1)[b].f1 = (expand l1)[b] := by simp [PS, pairs]
  rw [g0, g1]
  simp [List.getD_eq_getElem?_getD, h0, h1]
theorem beats_tg {l0 l1 : List S61} (h : TG l0 l1 = true) (k : Nat) (hk : 13 ≤ k) : spec_l8Beats.f k l0 = some ((PS l0 l1).length : Int) := by
  rw [beats_f l0 (PV_len (TG_0 h)) (PV_all (TG_0 h)) k hk, PS_len h]
/-- What the laws on two parts have in common: both lists are copied, and compared with their copies behind the call. -/
theorem both_lists (l0 l1 : List S65) (hl0 : l0.length ≤ maxLen) (hl1 : l1.length ≤ maxLen) :
    (¬ l0.length ≤ 1048576 ∧ laws_szVoiceS.f l0 1048576 = some (-1)) ∨
    ((l0.length ≤ 1048576 ∧ laws_szVoiceS.f l0 1048576 = some (1048576 - (l0.length : Int))) ∧
      ((¬ (l1.length : Int) ≤ 1048576 - (l0.length : Int) ∧ laws_szVoiceS.f l1 (1048576 - (l0.length : Int)) = some (-1)) ∨
       (l0.length + l1.length ≤ 1048576 ∧ laws_szVoiceS.f l1 (1048576 - (l0.length : Int)) = some (1048576 - (l0.length : Int) - (l1.length : Int))))) := by
  have h0 : l0.length ≤ 9223372036854775807 := by unfold maxLen at hl0; exact hl0
  have h1 : l1.length ≤ 9223372036854775807 := by unfold maxLen at hl1; exact hl1
  have e := szVoiceS_f l0 1048576 (by omega) (by omega) h0
  by_cases h : l0.length ≤ 1048576
  · right
    rw [if_pos (by omega)] at e
    refine ⟨⟨h, e⟩, ?_⟩
    have e1 := szVoiceS_f l1 (1048576 - (l0.length : Int)) (by omega) (by omega) h1
    by_cases h' : (l1.length : Int) ≤ 1048576 - (l0.length : Int)
    · right
      rw [if_pos h'] at e1
      exact ⟨by omega, e1⟩
    · left
      rw [if_neg h'] at e1
      exact ⟨h', e1⟩
  · left
    rw [if_neg (by omega)] at e
    exact ⟨h, e⟩

end Go.Proofs.Ytgiobmceippanaa.LSounds
