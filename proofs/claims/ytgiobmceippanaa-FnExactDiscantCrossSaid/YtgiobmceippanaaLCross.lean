import Derived.Test.YtgiobmceippanaaLBase
import Derived.Test.YtgiobmceippanaaLVoice
import Derived.Test.YtgiobmceippanaaLVoice2
import Derived.Test.YtgiobmceippanaaLSounds
import Derived.Test.YtgiobmceippanaaGx10
namespace Go.Proofs.Ytgiobmceippanaa.LCross
open Go.RowKit Go.Proofs.Ytgiobmceippanaa.G Go.Proofs.YtgiobmceippanaaW.PrintWords Go.Proofs.YtgiobmceippanaaW.PrintLast Go.Proofs.YtgiobmceippanaaW.PrintMore Go.Proofs.Ytgiobmceippanaa.LBase Go.Proofs.Ytgiobmceippanaa.LVoice Go.Proofs.Ytgiobmceippanaa.LVoice2 Go.Proofs.Ytgiobmceippanaa.LSounds
set_option linter.unusedVariables false
set_option linter.unusedSimpArgs false
def crossed (p : S72) : Bool := decide (p.f0.f0 > p.f1.f0)
theorem cross_i (ps : List S72) (hn : ps.length ≤ 24) : ∀ (d i k : Nat) (a : Int), i + d = ps.length → d < k → 0 ≤ a → a ≤ i → impl_DiscantCross.l0 k a ps (ps.length : Int) (i : Int) = some (a + ((ps.drop i).countP crossed : Nat)) := by
  intro d
  induction d with
  | zero =>
    intro i k a hi hk h0 h1
    obtain ⟨k, rfl⟩ : ∃ m, k = m + 1 := ⟨k - 1, by omega⟩
    simp only [impl_DiscantCross.l0]
    rw [if_neg (by omega), List.drop_eq_nil_of_le (by omega)]
    simp
  | succ d ih =>
    intro i k a hi hk h0 h1
    obtain ⟨k, rfl⟩ : ∃ m, k = m + 1 := ⟨k - 1, by omega⟩
    have hx : i < ps.length := by omega
    simp only [impl_DiscantCross.l0]
    rw [if_pos (by omega), if_pos (by omega), if_pos (by omega), rdp_at ps i hx, List.drop_eq_getElem_cons hx, List.countP_cons, w1 (by omega)]
    by_cases c : ps[i].f0.f0 > ps[i].f1.f0
    · have e : crossed ps[i] = true := decide_eq_true c
      rw [if_pos c, w0 (by omega) (by omega), ih (i + 1) k _ (by omega) (by omega) (by omega) (by omega), if_pos e]
      congr 1
      omega
    · have e : ¬ crossed ps[i] = true := by unfold crossed; rw [decide_eq_false c]; simp
      rw [if_neg c, ih (i + 1) k _ (by omega) (by omega) (by omega) (by omega), if_neg e]
      rfl
theorem cross_s {l0 l1 : List S61} (h : TG l0 l1 = true) : ∀ (d i k : Nat) (a : Int), i + d = (PS l0 l1).length → d + 14 < k → 0 ≤ a → a ≤ i → spec_DiscantCross.l0 k l0 l1 a (i : Int) = some (a + (((PS l0 l1).drop i).countP crossed : Nat)) := by
  have hn := PS_bd h
  intro d
  induction d with
  | zero =>
    intro i k a hi hk h0 h1
    obtain ⟨k, rfl⟩ : ∃ m, k = m + 1 := ⟨k - 1, by omega⟩
    simp only [spec_DiscantCross.l0]
    rw [beats_tg h k (by omega)]
    simp only [Option.bind_some]
    rw [if_neg (by omega), List.drop_eq_nil_of_le (by omega)]
    simp
  | succ d ih =>
    intro i k a hi hk h0 h1
    obtain ⟨k, rfl⟩ : ∃ m, k = m + 1 := ⟨k - 1, by omega⟩
    have hx : i < (PS l0 l1).length := by omega
    obtain ⟨a0, a1⟩ := PS_at h i hx k (by omega)
    simp only [spec_DiscantCross.l0]
    rw [beats_tg h k (by omega)]
    simp only [Option.bind_some]
    rw [if_pos (by omega), a0, a1]
    simp only [Option.bind_some]
    rw [List.drop_eq_getElem_cons hx, List.countP_cons, w1 (by omega)]
    by_cases c : (PS l0 l1)[i].f0.f0 > (PS l0 l1)[i].f1.f0
    · have e : crossed (PS l0 l1)[i] = true := decide_eq_true c
      rw [if_pos c, w0 (by omega) (by omega), ih (i + 1) k _ (by omega) (by omega) (by omega) (by omega), if_pos e]
      congr 1
      omega
    · have e : ¬ crossed (PS l0 l1)[i] = true := by unfold crossed; rw [decide_eq_false c]; simp
      rw [if_neg c, ih (i + 1) k _ (by omega) (by omega) (by omega) (by omega), if_neg e]
      rfl
def CR (l0 l1 : List S61) : Int := if TG l0 l1 = true then (((PS l0 l1).countP crossed : Nat) : Int) else -1
theorem cri_f (l0 l1 : List S61) (k : Nat) (hk : 40 ≤ k) : impl_DiscantCross.f k l0 l1 = some (CR l0 l1) := by
  unfold impl_DiscantCross.f CR
  rw [so_f l0 l1 k (by omega)]
  simp only [Option.bind_some]
  by_cases h : TG l0 l1 = true
  · rw [if_pos h, if_pos h, if_pos rfl]
    simpa using cross_i (PS l0 l1) (PS_bd h) (PS l0 l1).length 0 k 0 (by omega) (by have := PS_bd h; omega) (by omega) (by omega)
  · rw [if_neg h, if_neg h]
    rfl
theorem crs_f (l0 l1 : List S61) (hb0 : l0.length ≤ 1048576) (hb1 : l1.length ≤ 1048576) (k : Nat) (hk : l0.length + l1.length + 40 < k) : spec_DiscantCross.f k l0 l1 = some (CR l0 l1) := by
  unfold spec_DiscantCross.f CR
  rw [tg_f l0 l1 hb0 hb1 k (by omega)]
  simp only [Option.bind_some]
  by_cases h : TG l0 l1 = true
  · rw [if_pos h, if_pos h]
    simpa using cross_s h (PS l0 l1).length 0 k 0 (by omega) (by have := PS_bd h; omega) (by omega) (by omega)
  · rw [if_neg h, if_neg h]

end Go.Proofs.Ytgiobmceippanaa.LCross
