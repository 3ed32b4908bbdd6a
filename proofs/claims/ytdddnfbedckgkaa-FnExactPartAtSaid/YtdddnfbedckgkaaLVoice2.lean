import Derived.Test.YtdddnfbedckgkaaLBase
import Derived.Test.YtdddnfbedckgkaaLVoice
import Derived.Test.YtdddnfbedckgkaaGx20
import Derived.Test.YtdddnfbedckgkaaGx21
import Derived.Test.YtdddnfbedckgkaaGx22
namespace Go.Proofs.Ytdddnfbedckgkaa.LVoice2
open Go.RowKit Go.Proofs.Ytdddnfbedckgkaa.G Go.Proofs.YtdddnfbedckgkaaW.PrintWords Go.Proofs.YtdddnfbedckgkaaW.PrintLast Go.Proofs.YtdddnfbedckgkaaW.PrintMore Go.Proofs.Ytdddnfbedckgkaa.LBase Go.Proofs.Ytdddnfbedckgkaa.LVoice
set_option linter.unusedVariables false
set_option linter.unusedSimpArgs false
theorem expand_cons (v : S59) (l : List S59) : expand (v :: l) = List.replicate v.f1.toNat v.f0 ++ expand l := by simp [expand]
theorem expand_sum (l : List S59) (h : l.all vv = true) : ((expand l).length : Int) = sumB l := by
  induction l with
  | nil => rfl
  | cons v l ih =>
    simp only [List.all_cons, Bool.and_eq_true] at h
    have h1 := vv_bd h.1
    have h2 := ih h.2
    rw [expand_cons, sumB_cons, List.length_append, List.length_replicate]
    omega
theorem at_l0 (l : List S59) (hv : l.all vv = true) (hl : l.length ≤ 12) : ∀ (d i k : Nat) (b : Int), i + d = l.length → d ≤ k → 0 ≤ b → b < ((expand (l.drop i)).length : Int) → spec_l8At.l0 k l b (i : Int) = some (((expand (l.drop i)).getD b.toNat z48).f0, ((expand (l.drop i)).getD b.toNat z48).f1) := by
  intro d
  induction d with
  | zero =>
    intro i k b hi hk h0 h1
    rw [List.drop_eq_nil_of_le (by omega)] at h1
    simp [expand] at h1
    omega
  | succ d ih =>
    intro i k b hi hk h0 h1
    obtain ⟨k, rfl⟩ : ∃ m, k = m + 1 := ⟨k - 1, by omega⟩
    have hx : i < l.length := by omega
    have hb := vv_bd (List.all_eq_true.1 hv _ (List.getElem_mem hx))
    rw [List.drop_eq_getElem_cons hx, expand_cons] at h1 ⊢
    rw [List.length_append, List.length_replicate] at h1
    simp only [spec_l8At.l0]
    rw [if_pos (by omega), if_pos (by omega), rdv_at l i hx]
    by_cases hge : b ≥ l[i].f1
    · have hlen := expand_len (l.drop (i + 1)) (fun v hv' => (vv_bd (List.all_eq_true.1 hv v (List.mem_of_mem_drop hv'))).2)
      rw [List.length_drop] at hlen
      rw [if_pos hge, w1 (by omega), w0 (by omega) (by omega), ih (i + 1) k _ (by omega) (by omega) (by omega) (by omega)]
      rw [List.getD_eq_getElem?_getD, List.getD_eq_getElem?_getD, List.getElem?_append_right (by rw [List.length_replicate]; omega), List.length_replicate, show (b - l[i].f1).toNat = b.toNat - l[i].f1.toNat by omega]
    · rw [if_neg hge]
      rw [List.getD_eq_getElem?_getD, List.getElem?_append_left (by rw [List.length_replicate]; omega), List.getElem?_replicate, if_pos (by omega)]
      rfl
theorem at_f (l : List S59) (hv : l.all vv = true) (hl : l.length ≤ 12) (b : Int) (k : Nat) (hk : 12 ≤ k) (h0 : 0 ≤ b) (h1 : b < ((expand l).length : Int)) : spec_l8At.f k l b = some (((expand l).getD b.toNat z48).f0, ((expand l).getD b.toNat z48).f1) := by
  unfold spec_l8At.f
  simpa using at_l0 l hv hl l.length 0 k b (by omega) (by omega) h0 (by simpa using h1)
def PB (l : List S59) : Int := if PV l = true then sumB l else -1
theorem pbs_f (l : List S59) (hb : l.length ≤ 1048576) (k : Nat) (hk : l.length + 15 < k) : spec_PartBeats.f k l = some (PB l) := by
  unfold spec_PartBeats.f PB
  rw [pvs_f l hb k hk]
  simp only [Option.bind_some]
  by_cases h : PV l = true
  · rw [if_pos h, if_pos h, beats_f l (PV_len h) (PV_all h) k (by omega)]
    rfl
  · rw [if_neg h, if_neg h]
theorem pbi_f (l : List S59) (k : Nat) (hk : 13 ≤ k) : impl_PartBeats.f k l = some (PB l) := by
  unfold impl_PartBeats.f PB
  rw [pvi_f l k hk]
  simp only [Option.bind_some]
  by_cases h : PV l = true
  · rw [if_pos h, if_pos h, expand_sum l (PV_all h)]
  · rw [if_neg h, if_neg h]
def PA (l : List S59) (a : Int) : Int × Bool × Bool := if PV l = true then (if 0 ≤ a then (if a < ((expand l).length : Int) then (((expand l).getD a.toNat z48).f0, ((expand l).getD a.toNat z48).f1, true) else (0, false, false)) else (0, false, false)) else (0, false, false)
theorem pai_f (l : List S59) (a : Int) (k : Nat) (hk : 13 ≤ k) : impl_PartAt.f k l a = some (PA l a) := by
  unfold impl_PartAt.f PA
  rw [pvi_f l k hk]
  rfl
theorem pas_f (l : List S59) (a : Int) (hb : l.length ≤ 1048576) (k : Nat) (hk : l.length + 15 < k) : spec_PartAt.f k l a = some (PA l a) := by
  unfold spec_PartAt.f PA
  rw [pbs_f l hb k hk]
  simp only [Option.bind_some]
  rw [in_spec]
  simp only [Option.bind_some]
  unfold PB
  by_cases h : PV l = true
  · have hs := expand_sum l (PV_all h)
    have h2 := PV_sum h
    have h3 := sumB_bd l (PV_all h)
    rw [if_pos h, if_pos h, w0 (by omega) (by omega)]
    by_cases h0 : 0 ≤ a
    · rw [if_pos h0, decide_eq_true h0, Bool.true_and]
      by_cases h1 : a < ((expand l).length : Int)
      · rw [if_pos h1, if_pos (decide_eq_true (by omega)), at_f l (PV_all h) (PV_len h) a k (by omega) h0 h1]
        rfl
      · rw [if_neg h1, if_neg (by simp; omega)]
    · rw [if_neg h0, decide_eq_false h0]
      rfl
  · rw [if_neg h, if_neg h, show wrap64 (-1 - 1) = -2 by decide +kernel]
    by_cases h0 : 0 ≤ a
    · rw [decide_eq_false (show ¬ a ≤ -2 by omega)]
      simp
    · rw [decide_eq_false h0]
      rfl

end Go.Proofs.Ytdddnfbedckgkaa.LVoice2
