import Derived.Test.YtgiobmceippanaaLBase
import Derived.Test.YtgiobmceippanaaLVoice
import Derived.Test.YtgiobmceippanaaLVoice2
import Derived.Test.YtgiobmceippanaaLSounds
import Derived.Test.YtgiobmceippanaaGx11
import Derived.Test.YtgiobmceippanaaGx12
namespace Go.Proofs.Ytgiobmceippanaa.LContrary
open Go.RowKit Go.Proofs.Ytgiobmceippanaa.G Go.Proofs.YtgiobmceippanaaW.PrintWords Go.Proofs.YtgiobmceippanaaW.PrintLast Go.Proofs.YtgiobmceippanaaW.PrintMore Go.Proofs.Ytgiobmceippanaa.LBase Go.Proofs.Ytgiobmceippanaa.LVoice Go.Proofs.Ytgiobmceippanaa.LVoice2 Go.Proofs.Ytgiobmceippanaa.LSounds
set_option linter.unusedVariables false
set_option linter.unusedSimpArgs false
def opp (p q : S72) : Bool := decide (wrap64 (wrap64 (q.f0.f0 - p.f0.f0) * wrap64 (q.f1.f0 - p.f1.f0)) < 0)
def adj : List S72 → Nat
  | [] => 0
  | [_] => 0
  | p :: q :: r => (if opp p q = true then 1 else 0) + adj (q :: r)
theorem adj_drop (ps : List S72) (i : Nat) (h : i + 1 < ps.length) : adj (ps.drop i) = (if opp ps[i] ps[i + 1] = true then 1 else 0) + adj (ps.drop (i + 1)) := by
  rw [List.drop_eq_getElem_cons (show i < ps.length by omega), List.drop_eq_getElem_cons h]
  rfl
theorem adj_end (ps : List S72) (i : Nat) (h : ¬ i + 1 < ps.length) : adj (ps.drop i) = 0 := by
  by_cases hi : i < ps.length
  · rw [List.drop_eq_getElem_cons hi, List.drop_eq_nil_of_le (by omega)]
    rfl
  · rw [List.drop_eq_nil_of_le (by omega)]
    rfl
theorem contr_i (ps : List S72) (hn : ps.length ≤ 24) : ∀ (d i k : Nat) (a : Int), i + 1 + d = ps.length → d < k → 0 ≤ a → a ≤ i → impl_DiscantContrary.l0 k ps a ((i + 1 : Nat) : Int) = some (a + (adj (ps.drop i) : Nat)) := by
  intro d
  induction d with
  | zero =>
    intro i k a hi hk h0 h1
    obtain ⟨k, rfl⟩ : ∃ m, k = m + 1 := ⟨k - 1, by omega⟩
    simp only [impl_DiscantContrary.l0]
    rw [if_neg (by omega), adj_end ps i (by omega)]
    simp
  | succ d ih =>
    intro i k a hi hk h0 h1
    obtain ⟨k, rfl⟩ : ∃ m, k = m + 1 := ⟨k - 1, by omega⟩
    have hx : i + 1 < ps.length := by omega
    have e1 : wrap64 (((i + 1 : Nat) : Int) - 1) = (i : Int) := by rw [w0 (by omega) (by omega)]; omega
    simp only [impl_DiscantContrary.l0]
    rw [if_pos (by omega), e1, if_pos (by omega), if_pos (by omega), if_pos (by omega), rdp_at ps i (by omega), rdp_at ps (i + 1) hx, adj_drop ps i hx, w1 (by omega)]
    simp only [impl_soundPair_changesTo.f, Option.bind_some]
    by_cases c : wrap64 (wrap64 (ps[i + 1].f0.f0 - ps[i].f0.f0) * wrap64 (ps[i + 1].f1.f0 - ps[i].f1.f0)) < 0
    · have e : opp ps[i] ps[i + 1] = true := decide_eq_true c
      rw [if_pos c, w0 (by omega) (by omega), ih (i + 1) k _ (by omega) (by omega) (by omega) (by omega), if_pos e]
      congr 1
      omega
    · have e : ¬ opp ps[i] ps[i + 1] = true := by unfold opp; rw [decide_eq_false c]; simp
      rw [if_neg c, ih (i + 1) k _ (by omega) (by omega) (by omega) (by omega), if_neg e]
      simp
theorem moves_f {l0 l1 : List S61} (h : TG l0 l1 = true) (b : Nat) (hb : b + 1 < (PS l0 l1).length) (k : Nat) (hk : 12 ≤ k) : spec_l8Moves.f k l0 l1 (b : Int) = some (wrap64 ((PS l0 l1)[b + 1].f0.f0 - (PS l0 l1)[b].f0.f0), wrap64 ((PS l0 l1)[b + 1].f1.f0 - (PS l0 l1)[b].f1.f0)) := by
  have hn := PS_bd h
  obtain ⟨a0, a1⟩ := PS_at h b (by omega) k hk
  obtain ⟨b0, b1⟩ := PS_at h (b + 1) hb k hk
  unfold spec_l8Moves.f
  rw [w1 (by omega), a0, a1, b0, b1]
  simp only [Option.bind_some]
theorem contr_s' (l0 l1 : List S61) (ps : List S72) (hn : ps.length ≤ 24) (hB : ∀ k, 13 ≤ k → spec_l8Beats.f k l0 = some (ps.length : Int)) (hM : ∀ (b : Nat) (hb : b + 1 < ps.length) (k : Nat), 12 ≤ k → spec_l8Moves.f k l0 l1 (b : Int) = some (wrap64 (ps[b + 1].f0.f0 - ps[b].f0.f0), wrap64 (ps[b + 1].f1.f0 - ps[b].f1.f0))) : ∀ (d i k : Nat) (a : Int), i + d = ps.length → d + 14 < k → 0 ≤ a → a ≤ i → spec_DiscantContrary.l0 k l0 l1 a (i : Int) = some (a + (adj (ps.drop i) : Nat)) := by
  intro d
  induction d with
  | zero =>
    intro i k a hi hk h0 h1
    obtain ⟨k, rfl⟩ : ∃ m, k = m + 1 := ⟨k - 1, by omega⟩
    simp only [spec_DiscantContrary.l0]
    rw [hB k (by omega), Option.bind_some, w1 (by omega), if_neg (by omega), adj_end _ i (by omega)]
    simp
  | succ d ih =>
    intro i k a hi hk h0 h1
    obtain ⟨k, rfl⟩ : ∃ m, k = m + 1 := ⟨k - 1, by omega⟩
    simp only [spec_DiscantContrary.l0]
    rw [hB k (by omega), Option.bind_some, w1 (by omega)]
    by_cases hx : i + 1 < ps.length
    · rw [if_pos (by omega), hM i hx k (by omega), adj_drop _ i hx, Option.bind_some]
      dsimp only
      by_cases c : wrap64 (wrap64 (ps[i + 1].f0.f0 - ps[i].f0.f0) * wrap64 (ps[i + 1].f1.f0 - ps[i].f1.f0)) < 0
      · have e : opp ps[i] ps[i + 1] = true := decide_eq_true c
        rw [if_pos c, w0 (by omega) (by omega), ih (i + 1) k _ (by omega) (by omega) (by omega) (by omega), if_pos e]
        congr 1
        omega
      · have e : ¬ opp ps[i] ps[i + 1] = true := by unfold opp; rw [decide_eq_false c]; simp
        rw [if_neg c, ih (i + 1) k _ (by omega) (by omega) (by omega) (by omega), if_neg e]
        simp
    · rw [if_neg (by omega), adj_end _ i hx]
      simp
theorem contr_s {l0 l1 : List S61} (h : TG l0 l1 = true) (k : Nat) (hk : 40 ≤ k) : spec_DiscantContrary.l0 k l0 l1 0 0 = some ((adj (PS l0 l1) : Nat) : Int) := by
  have hn := PS_bd h
  have := contr_s' l0 l1 (PS l0 l1) hn (fun k hk => beats_tg h k hk) (fun b hb k hk => moves_f h b hb k hk) (PS l0 l1).length 0 k 0 (by omega) (by omega) (by omega) (by omega)
  simpa using this
def CN (l0 l1 : List S61) : Int := if TG l0 l1 = true then (adj (PS l0 l1) : Nat) else -1
theorem cni_f (l0 l1 : List S61) (k : Nat) (hk : 40 ≤ k) : impl_DiscantContrary.f k l0 l1 = some (CN l0 l1) := by
  unfold impl_DiscantContrary.f CN
  rw [so_f l0 l1 k (by omega)]
  simp only [Option.bind_some]
  by_cases h : TG l0 l1 = true
  · rw [if_pos h, if_pos h, if_pos rfl]
    by_cases hz : (PS l0 l1).length = 0
    · have e : PS l0 l1 = [] := List.length_eq_zero_iff.mp hz
      obtain ⟨k, rfl⟩ : ∃ m, k = m + 1 := ⟨k - 1, by omega⟩
      simp only [impl_DiscantContrary.l0, e]
      rfl
    · simpa using contr_i (PS l0 l1) (PS_bd h) ((PS l0 l1).length - 1) 0 k 0 (by omega) (by have := PS_bd h; omega) (by omega) (by omega)
  · rw [if_neg h, if_neg h]
    rfl
theorem cns_f (l0 l1 : List S61) (hb0 : l0.length ≤ 1048576) (hb1 : l1.length ≤ 1048576) (k : Nat) (hk : l0.length + l1.length + 40 < k) : spec_DiscantContrary.f k l0 l1 = some (CN l0 l1) := by
  unfold spec_DiscantContrary.f CN
  rw [tg_f l0 l1 hb0 hb1 k (by omega)]
  simp only [Option.bind_some]
  by_cases h : TG l0 l1 = true
  · rw [if_pos h, if_pos h]
    exact contr_s h k (by omega)
  · rw [if_neg h, if_neg h]

end Go.Proofs.Ytgiobmceippanaa.LContrary
