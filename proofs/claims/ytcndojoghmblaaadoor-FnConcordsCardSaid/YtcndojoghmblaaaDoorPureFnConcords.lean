/- FnConcords: for every list of at most 1048576 bytes, the law of DiscantConcords holds of what the reference draws from it, and the list reads as before (longer lists the statement lets pass). The tables letterHeights and leastSemis are tied to the program's text. No condition beyond the statement's own. -/
import Derived.Test.YtcndojoghmblaaaDoorGAx0
import Derived.Test.YtcndojoghmblaaaDoorGAx4
import Derived.Test.YtcndojoghmblaaaDoorGAx1
import Derived.Test.YtcndojoghmblaaaDoorGAx2
import Derived.Test.YtcndojoghmblaaaDoorGAx6
import Derived.Test.YtcndojoghmblaaaDoorGAx3
import Derived.Test.YtcndojoghmblaaaDoorGAx7
import Derived.Laws.Bits64
namespace Go.Proofs.YtcndojoghmblaaaDoor.PureFnConcords
open Go.RowKit Go.Proofs.YtcndojoghmblaaaDoor.GA Go.Proofs.YtcndojoghmblaaaDoorW.PrintWords Go.Proofs.YtcndojoghmblaaaDoorW.PrintLast Go.Proofs.YtcndojoghmblaaaDoorW.PrintMore 
set_option linter.unusedVariables false
set_option linter.unusedSimpArgs false
theorem w1 {i : Nat} (h : i < 4611686018427387904) : wrap64 ((i : Int) + 1) = ((i + 1 : Nat) : Int) := by
  unfold wrap64
  omega
theorem w0 {i : Int} (h : -9223372036854775808 ≤ i) (h' : i ≤ 9223372036854775807) : wrap64 i = i := by
  unfold wrap64
  omega
theorem rd_at (xs : List Int) (i : Nat) (h : i < xs.length) : rd xs (i : Int) = xs[i] := by
  simp [rd, List.getD_eq_getElem?_getD, h]
/-- A tone of the gamut. -/
def tv (a : Int) (b : Bool) : Bool := decide (0 ≤ a) && (decide (a ≤ 20) && (!b || decide (Int.tmod a 7 = 2)))
theorem tv_spec (a : Int) (b : Bool) : spec_ToneValid.f a b = some (tv a b) := by
  unfold spec_ToneValid.f spec_l6In.f spec_l1Letter.f tv
  by_cases h0 : a ≥ 0
  · rw [if_pos h0, decide_eq_true (show 0 ≤ a from h0)]
    by_cases h1 : a ≤ 20
    · simp only [h1, decide_true, Option.bind_some, if_true, Bool.true_and]
      cases b
      · rfl
      · simp
        rfl
    · simp [h1]
  · rw [if_neg h0, decide_eq_false (show ¬ 0 ≤ a from h0)]
    rfl
theorem tv_impl (a : Int) (b : Bool) : impl_Tone_valid.f a b = some (tv a b) := by
  unfold impl_Tone_valid.f tv
  by_cases h0 : a ≥ 0
  · rw [if_pos h0, decide_eq_true (show 0 ≤ a from h0)]
    by_cases h1 : a ≤ 20
    · rw [if_pos h1, decide_eq_true h1]
      cases b
      · rfl
      · simp
        rfl
    · rw [if_neg h1, decide_eq_false h1]
      rfl
  · rw [if_neg h0, decide_eq_false (show ¬ 0 ≤ a from h0)]
    rfl
theorem in_spec (a b c : Int) : spec_l6In.f a b c = some (decide (b ≤ a) && decide (a ≤ c)) := by
  unfold spec_l6In.f
  by_cases h0 : a ≥ b
  · rw [if_pos h0, decide_eq_true (show b ≤ a from h0)]; rfl
  · rw [if_neg h0, decide_eq_false (show ¬ b ≤ a from h0)]; rfl
def vv (v : S44) : Bool := tv v.f0.f0 v.f0.f1 && (decide (1 ≤ v.f1) && decide (v.f1 ≤ 3))
theorem rdv_at (xs : List S44) (i : Nat) (h : i < xs.length) : rd_T44 xs (i : Int) = xs[i] := by
  simp [rd_T44, List.getD_eq_getElem?_getD, h]
def sumB (l : List S44) : Int := (l.map (·.f1)).sum
theorem sumB_cons (v : S44) (l : List S44) : sumB (v :: l) = v.f1 + sumB l := by simp [sumB]
theorem vv_bd {v : S44} (h : vv v = true) : 1 ≤ v.f1 ∧ v.f1 ≤ 3 := by
  unfold vv at h
  simp only [Bool.and_eq_true, decide_eq_true_eq] at h
  exact h.2
theorem sumB_bd (l : List S44) (h : l.all vv = true) : 0 ≤ sumB l ∧ sumB l ≤ 3 * l.length := by
  induction l with
  | nil => simp [sumB]
  | cons v l ih =>
    simp only [List.all_cons, Bool.and_eq_true] at h
    have h1 := vv_bd h.1
    have h2 := ih h.2
    rw [sumB_cons, List.length_cons]
    omega
def PV (l : List S44) : Bool := decide (l.length ≤ 12) && (l.all vv && decide (sumB l ≤ 24))
theorem PV_len {l : List S44} (h : PV l = true) : l.length ≤ 12 := by
  unfold PV at h
  simp only [Bool.and_eq_true, decide_eq_true_eq] at h
  exact h.1
theorem PV_all {l : List S44} (h : PV l = true) : l.all vv = true := by
  unfold PV at h
  simp only [Bool.and_eq_true, decide_eq_true_eq] at h
  exact h.2.1
theorem PV_sum {l : List S44} (h : PV l = true) : sumB l ≤ 24 := by
  unfold PV at h
  simp only [Bool.and_eq_true, decide_eq_true_eq] at h
  exact h.2.2
theorem beats_l0 (l : List S44) (hl : l.length ≤ 12) (hv : l.all vv = true) : ∀ (d i k : Nat) (a : Int), i + d = l.length → d < k → 0 ≤ a → a ≤ 3 * i → spec_l8Beats.l0 k l a (i : Int) = some (a + sumB (l.drop i)) := by
  intro d
  induction d with
  | zero =>
    intro i k a hi hk h0 h1
    obtain ⟨k, rfl⟩ : ∃ m, k = m + 1 := ⟨k - 1, by omega⟩
    simp only [spec_l8Beats.l0]
    rw [if_neg (by omega), List.drop_eq_nil_of_le (by omega)]
    simp [sumB]
  | succ d ih =>
    intro i k a hi hk h0 h1
    obtain ⟨k, rfl⟩ : ∃ m, k = m + 1 := ⟨k - 1, by omega⟩
    have hx : i < l.length := by omega
    have hb := vv_bd (List.all_eq_true.1 hv _ (List.getElem_mem hx))
    simp only [spec_l8Beats.l0]
    rw [if_pos (by omega), if_pos (by omega), rdv_at l i hx, w1 (by omega), w0 (by omega) (by omega), ih (i + 1) k _ (by omega) (by omega) (by omega) (by omega), List.drop_eq_getElem_cons hx, sumB_cons]
    congr 1
    omega
theorem beats_f (l : List S44) (hl : l.length ≤ 12) (hv : l.all vv = true) (k : Nat) (hk : 13 ≤ k) : spec_l8Beats.f k l = some (sumB l) := by
  unfold spec_l8Beats.f
  simpa using beats_l0 l hl hv l.length 0 k 0 (by omega) (by omega) (by omega) (by omega)
theorem pvs_l0 (l : List S44) (hb : l.length < 4611686018427387904) : ∀ (d i k : Nat), i + d = l.length → d + 14 < k → (l.take i).all vv = true → spec_PartValid.l0 k l (i : Int) = some (PV l) := by
  intro d
  induction d with
  | zero =>
    intro i k hi hk hv
    obtain ⟨k, rfl⟩ : ∃ m, k = m + 1 := ⟨k - 1, by omega⟩
    rw [List.take_of_length_le (by omega)] at hv
    simp only [spec_PartValid.l0]
    rw [if_neg (by omega)]
    unfold PV
    rw [hv]
    by_cases hl : l.length ≤ 12
    · rw [if_pos (by omega), beats_f l hl hv k (by omega), decide_eq_true hl]
      rfl
    · rw [if_neg (by omega), decide_eq_false hl]
      rfl
  | succ d ih =>
    intro i k hi hk hv
    obtain ⟨k, rfl⟩ : ∃ m, k = m + 1 := ⟨k - 1, by omega⟩
    have hx : i < l.length := by omega
    simp only [spec_PartValid.l0]
    rw [if_pos (by omega), if_pos (by omega), rdv_at l i hx, tv_spec, in_spec]
    simp only [Option.bind_some]
    by_cases hvi : vv l[i] = true
    · have hvi2 := hvi
      unfold vv at hvi2
      simp only [Bool.and_eq_true] at hvi2
      rw [if_pos hvi2.1, if_pos (by simpa using hvi2.2), w1 (by omega)]
      refine ih (i + 1) k (by omega) (by omega) ?_
      rw [List.take_succ_eq_append_getElem hx, List.all_append, hv]
      simp [hvi]
    · have hF : PV l = false := by
        have : l.all vv = false := by
          rw [Bool.eq_false_iff]
          intro h
          exact hvi (List.all_eq_true.1 h _ (List.getElem_mem hx))
        unfold PV
        rw [this]
        simp
      rw [hF]
      unfold vv at hvi
      by_cases h1 : tv l[i].f0.f0 l[i].f0.f1 = true
      · rw [if_pos h1]
        rw [h1, Bool.true_and] at hvi
        rw [if_neg hvi]
      · rw [if_neg h1]
theorem pvs_f (l : List S44) (hb : l.length ≤ 1048576) (k : Nat) (hk : l.length + 15 < k) : spec_PartValid.f k l = some (PV l) := by
  unfold spec_PartValid.f
  simpa using pvs_l0 l (by omega) l.length 0 k (by omega) (by omega) (by simp)
theorem pvi_l0 (l : List S44) (hl : l.length ≤ 12) : ∀ (d i k : Nat) (a : Int), i + d = l.length → d < k → 0 ≤ a → a ≤ 3 * i → impl_PartValid.l0 k a l (l.length : Int) (i : Int) = some ((l.drop i).all vv && decide (a + sumB (l.drop i) ≤ 24)) := by
  intro d
  induction d with
  | zero =>
    intro i k a hi hk h0 h1
    obtain ⟨k, rfl⟩ : ∃ m, k = m + 1 := ⟨k - 1, by omega⟩
    simp only [impl_PartValid.l0]
    rw [if_neg (by omega), List.drop_eq_nil_of_le (by omega)]
    simp [sumB]
  | succ d ih =>
    intro i k a hi hk h0 h1
    obtain ⟨k, rfl⟩ : ∃ m, k = m + 1 := ⟨k - 1, by omega⟩
    have hx : i < l.length := by omega
    simp only [impl_PartValid.l0]
    rw [if_pos (by omega), if_pos (by omega), if_pos (by omega), rdv_at l i hx, tv_impl, List.drop_eq_getElem_cons hx, sumB_cons, List.all_cons]
    simp only [Option.bind_some]
    by_cases ht : tv l[i].f0.f0 l[i].f0.f1 = true
    · rw [if_pos ht]
      by_cases h3 : l[i].f1 < 1
      · rw [if_pos h3]
        have : vv l[i] = false := by unfold vv; rw [decide_eq_false (show ¬ 1 ≤ l[i].f1 by omega)]; simp
        rw [this]
        rfl
      · rw [if_neg h3]
        by_cases h4 : l[i].f1 > 3
        · rw [if_pos h4]
          have : vv l[i] = false := by unfold vv; rw [decide_eq_false (show ¬ l[i].f1 ≤ 3 by omega)]; simp
          rw [this]
          rfl
        · have : vv l[i] = true := by unfold vv; rw [ht, decide_eq_true (show 1 ≤ l[i].f1 by omega), decide_eq_true (show l[i].f1 ≤ 3 by omega)]; rfl
          rw [if_neg h4, w1 (by omega), w0 (by omega) (by omega), ih (i + 1) k _ (by omega) (by omega) (by omega) (by omega), this, Bool.true_and, Int.add_assoc]
    · rw [if_neg ht]
      have : vv l[i] = false := by unfold vv; rw [Bool.eq_false_iff.mpr ht]; rfl
      rw [this]
      rfl
theorem pvi_f (l : List S44) (k : Nat) (hk : 13 ≤ k) : impl_PartValid.f k l = some (PV l) := by
  unfold impl_PartValid.f PV
  by_cases hl : l.length ≤ 12
  · rw [if_neg (by omega), decide_eq_true hl, Bool.true_and]
    simpa using pvi_l0 l hl l.length 0 k 0 (by omega) (by omega) (by omega) (by omega)
  · rw [if_pos (by omega), decide_eq_false hl]
    rfl

theorem expand_cons (v : S44) (l : List S44) : expand (v :: l) = List.replicate v.f1.toNat v.f0 ++ expand l := by simp [expand]
theorem expand_sum (l : List S44) (h : l.all vv = true) : ((expand l).length : Int) = sumB l := by
  induction l with
  | nil => rfl
  | cons v l ih =>
    simp only [List.all_cons, Bool.and_eq_true] at h
    have h1 := vv_bd h.1
    have h2 := ih h.2
    rw [expand_cons, sumB_cons, List.length_append, List.length_replicate]
    omega
theorem at_l0 (l : List S44) (hv : l.all vv = true) (hl : l.length ≤ 12) : ∀ (d i k : Nat) (b : Int), i + d = l.length → d ≤ k → 0 ≤ b → b < ((expand (l.drop i)).length : Int) → spec_l8At.l0 k l b (i : Int) = some (((expand (l.drop i)).getD b.toNat z30).f0, ((expand (l.drop i)).getD b.toNat z30).f1) := by
  intro d
  induction d with
  | zero =>
    intro i k b hi hk h0 h1
    rw [List.drop_eq_nil_of_le (by omega)] at h1
    simp [expand] at h1
    omega
  | succ d ih =>
    intro i k b hi hk h0 h1
    obtain ⟨k, rfl⟩ : ∃ m, k = m + 1 := ⟨k - 1, by omega⟩
    have hx : i < l.length := by omega
    have hb := vv_bd (List.all_eq_true.1 hv _ (List.getElem_mem hx))
    rw [List.drop_eq_getElem_cons hx, expand_cons] at h1 ⊢
    rw [List.length_append, List.length_replicate] at h1
    simp only [spec_l8At.l0]
    rw [if_pos (by omega), if_pos (by omega), rdv_at l i hx]
    by_cases hge : b ≥ l[i].f1
    · have hlen := expand_len (l.drop (i + 1)) (fun v hv' => (vv_bd (List.all_eq_true.1 hv v (List.mem_of_mem_drop hv'))).2)
      rw [List.length_drop] at hlen
      rw [if_pos hge, w1 (by omega), w0 (by omega) (by omega), ih (i + 1) k _ (by omega) (by omega) (by omega) (by omega)]
      rw [List.getD_eq_getElem?_getD, List.getD_eq_getElem?_getD, List.getElem?_append_right (by rw [List.length_replicate]; omega), List.length_replicate, show (b - l[i].f1).toNat = b.toNat - l[i].f1.toNat by omega]
    · rw [if_neg hge]
      rw [List.getD_eq_getElem?_getD, List.getElem?_append_left (by rw [List.length_replicate]; omega), List.getElem?_replicate, if_pos (by omega)]
      rfl
theorem at_f (l : List S44) (hv : l.all vv = true) (hl : l.length ≤ 12) (b : Int) (k : Nat) (hk : 12 ≤ k) (h0 : 0 ≤ b) (h1 : b < ((expand l).length : Int)) : spec_l8At.f k l b = some (((expand l).getD b.toNat z30).f0, ((expand l).getD b.toNat z30).f1) := by
  unfold spec_l8At.f
  simpa using at_l0 l hv hl l.length 0 k b (by omega) (by omega) h0 (by simpa using h1)
def PB (l : List S44) : Int := if PV l = true then sumB l else -1
theorem pbs_f (l : List S44) (hb : l.length ≤ 1048576) (k : Nat) (hk : l.length + 15 < k) : spec_PartBeats.f k l = some (PB l) := by
  unfold spec_PartBeats.f PB
  rw [pvs_f l hb k hk]
  simp only [Option.bind_some]
  by_cases h : PV l = true
  · rw [if_pos h, if_pos h, beats_f l (PV_len h) (PV_all h) k (by omega)]
    rfl
  · rw [if_neg h, if_neg h]
def TG (l0 l1 : List S44) : Bool := PV l0 && (PV l1 && decide (sumB l0 = sumB l1))
theorem TG_0 {l0 l1 : List S44} (h : TG l0 l1 = true) : PV l0 = true := by
  unfold TG at h
  simp only [Bool.and_eq_true] at h
  exact h.1
theorem TG_1 {l0 l1 : List S44} (h : TG l0 l1 = true) : PV l1 = true := by
  unfold TG at h
  simp only [Bool.and_eq_true] at h
  exact h.2.1
theorem TG_2 {l0 l1 : List S44} (h : TG l0 l1 = true) : sumB l0 = sumB l1 := by
  unfold TG at h
  simp only [Bool.and_eq_true, decide_eq_true_eq] at h
  exact h.2.2
def PS (l0 l1 : List S44) : List S85 := pairs (expand l0) (expand l1)
theorem so_f (l0 l1 : List S44) (k : Nat) (hk : 13 ≤ k) : impl_soundsOf.f k l0 l1 = some (if TG l0 l1 = true then (PS l0 l1, true) else ([], false)) := by
  unfold impl_soundsOf.f
  rw [pvi_f l0 k hk, pvi_f l1 k hk]
  simp only [Option.bind_some]
  congr 1
  by_cases h0 : PV l0 = true
  · by_cases h1 : PV l1 = true
    · have e0 := expand_sum l0 (PV_all h0)
      have e1 := expand_sum l1 (PV_all h1)
      by_cases h2 : sumB l0 = sumB l1
      · rw [if_pos ⟨h0, h1, by omega⟩, if_pos (by unfold TG; rw [h0, h1, decide_eq_true h2]; rfl)]
        rfl
      · rw [if_neg (fun z => h2 (by omega)), if_neg (by unfold TG; rw [h0, h1, decide_eq_false h2]; simp)]
    · rw [if_neg (fun z => h1 z.2.1), if_neg (fun z => h1 (TG_1 z))]
  · rw [if_neg (fun z => h0 z.1), if_neg (fun z => h0 (TG_0 z))]
theorem tg_f (l0 l1 : List S44) (hb0 : l0.length ≤ 1048576) (hb1 : l1.length ≤ 1048576) (k : Nat) (hk : l0.length + l1.length + 15 < k) : spec_DiscantTogether.f k l0 l1 = some (TG l0 l1) := by
  unfold spec_DiscantTogether.f
  rw [pbs_f l0 hb0 k (by omega), pbs_f l1 hb1 k (by omega)]
  simp only [Option.bind_some]
  unfold PB TG
  by_cases h0 : PV l0 = true
  · have b0 := (sumB_bd l0 (PV_all h0)).1
    rw [if_pos h0, if_pos (by omega), h0, Bool.true_and]
    by_cases h1 : PV l1 = true
    · rw [if_pos h1, h1, Bool.true_and]
      rfl
    · rw [if_neg h1, Bool.eq_false_iff.mpr h1, Bool.false_and]
      congr 1
      rw [beq_eq_false_iff_ne]
      omega
  · rw [if_neg h0, if_neg (by omega), Bool.eq_false_iff.mpr h0]
    rfl
theorem PS_len {l0 l1 : List S44} (h : TG l0 l1 = true) : ((PS l0 l1).length : Int) = sumB l0 := by
  have e0 := expand_sum l0 (PV_all (TG_0 h))
  have e1 := expand_sum l1 (PV_all (TG_1 h))
  have e2 := TG_2 h
  unfold PS pairs
  rw [List.length_zipWith]
  omega
theorem PS_bd {l0 l1 : List S44} (h : TG l0 l1 = true) : (PS l0 l1).length ≤ 24 := by
  have e0 := PS_len h
  have := PV_sum (TG_0 h)
  omega
theorem rdp_at (xs : List S85) (i : Nat) (h : i < xs.length) : rd_T85 xs (i : Int) = xs[i] := by
  simp [rd_T85, List.getD_eq_getElem?_getD, h]
theorem PS_at {l0 l1 : List S44} (h : TG l0 l1 = true) (b : Nat) (hb : b < (PS l0 l1).length) (k : Nat) (hk : 12 ≤ k) : spec_l8At.f k l0 (b : Int) = some ((PS l0 l1)[b].f0.f0, (PS l0 l1)[b].f0.f1) ∧ spec_l8At.f k l1 (b : Int) = some ((PS l0 l1)[b].f1.f0, (PS l0 l1)[b].f1.f1) := by
  have e0 := expand_sum l0 (PV_all (TG_0 h))
  have e1 := expand_sum l1 (PV_all (TG_1 h))
  have e2 := TG_2 h
  have e3 := PS_len h
  have h0 : b < (expand l0).length := by omega
  have h1 : b < (expand l1).length := by omega
  rw [at_f l0 (PV_all (TG_0 h)) (PV_len (TG_0 h)) b k hk (by omega) (by omega), at_f l1 (PV_all (TG_1 h)) (PV_len (TG_1 h)) b k hk (by omega) (by omega)]
  have g0 : (PS l0 l1)[b].f0 = (expand l0)[b] := by simp [PS, pairs]
  have g1 : (PS l0 l1)[b].f1 = (expand l1)[b] := by simp [PS, pairs]
  rw [g0, g1]
  simp [List.getD_eq_getElem?_getD, h0, h1]
theorem beats_tg {l0 l1 : List S44} (h : TG l0 l1 = true) (k : Nat) (hk : 13 ≤ k) : spec_l8Beats.f k l0 = some ((PS l0 l1).length : Int) := by
  rw [beats_f l0 (PV_len (TG_0 h)) (PV_all (TG_0 h)) k hk, PS_len h]
def CC (a : Int) (b : Bool) (c : Int) (d : Bool) : Bool := (spec_l8Concord.f 14 a b c d).getD false
theorem cc_fin : ∀ b d : Bool, ∀ n : Nat, n < 21 → ∀ m : Nat, m < 21 → (if (tv (n : Int) b && tv (m : Int) d) = true then decide (spec_l8Concord.f 14 (n : Int) b (m : Int) d = some (CC (n : Int) b (m : Int) d) ∧ impl_soundPair_concord.f 14 (n : Int) b (m : Int) d = some (CC (n : Int) b (m : Int) d)) else true) = true := by decide +kernel
theorem cc_both (a : Int) (b : Bool) (c : Int) (d : Bool) (h1 : tv a b = true) (h2 : tv c d = true) : spec_l8Concord.f 14 a b c d = some (CC a b c d) ∧ impl_soundPair_concord.f 14 a b c d = some (CC a b c d) := by
  have g1 := h1
  have g2 := h2
  unfold tv at g1 g2
  simp only [Bool.and_eq_true, decide_eq_true_eq] at g1 g2
  obtain ⟨n, rfl⟩ := Int.eq_ofNat_of_zero_le g1.1
  obtain ⟨m, rfl⟩ := Int.eq_ofNat_of_zero_le g2.1
  have := cc_fin b d n (by omega) m (by omega)
  rw [h1, h2, if_pos (by rfl)] at this
  exact of_decide_eq_true this
theorem cci_f (a : Int) (b : Bool) (c : Int) (d : Bool) (h1 : tv a b = true) (h2 : tv c d = true) (k : Nat) (hk : 14 ≤ k) : impl_soundPair_concord.f k a b c d = some (CC a b c d) :=
  at_rounds (impl_soundPair_concord.mono _ _ _ _) hk (cc_both a b c d h1 h2).2
theorem ccs_f (a : Int) (b : Bool) (c : Int) (d : Bool) (h1 : tv a b = true) (h2 : tv c d = true) (k : Nat) (hk : 14 ≤ k) : spec_l8Concord.f k a b c d = some (CC a b c d) :=
  at_rounds (spec_l8Concord.mono _ _ _ _) hk (cc_both a b c d h1 h2).1
/-- Both tones are valid. -/
def pv (p : S85) : Prop := tv p.f0.f0 p.f0.f1 = true ∧ tv p.f1.f0 p.f1.f1 = true
def cp (p : S85) : Bool := CC p.f0.f0 p.f0.f1 p.f1.f0 p.f1.f1
def pvs (ps : List S85) : Prop := ∀ p ∈ ps, pv p
theorem exp_tv {a : List S44} (h : PV a = true) : ∀ t ∈ expand a, tv t.f0 t.f1 = true := by
  intro t ht
  obtain ⟨v, hv, hr⟩ := List.mem_flatMap.1 (show t ∈ a.flatMap fun v => List.replicate v.f1.toNat v.f0 by simpa [expand] using ht)
  have e := List.eq_of_mem_replicate hr
  have hvv := List.all_eq_true.1 (PV_all h) v hv
  unfold vv at hvv
  rw [Bool.and_eq_true] at hvv
  rw [e]
  exact hvv.1
theorem pairs_mem {xs : List S30} : ∀ {ys : List S30} {p : S85}, p ∈ pairs xs ys → p.f0 ∈ xs ∧ p.f1 ∈ ys := by
  induction xs with
  | nil => intro ys p hp; simp [pairs] at hp
  | cons x xs ih =>
    intro ys p hp
    cases ys with
    | nil => simp [pairs] at hp
    | cons y ys =>
      have hp' : p = ⟨x, y⟩ ∨ p ∈ pairs xs ys := by simpa [pairs] using hp
      rcases hp' with rfl | hp'
      · exact ⟨List.mem_cons_self .., List.mem_cons_self ..⟩
      · have := ih hp'
        exact ⟨List.mem_cons_of_mem _ this.1, List.mem_cons_of_mem _ this.2⟩
theorem PS_pv {l0 l1 : List S44} (h : TG l0 l1 = true) : pvs (PS l0 l1) := fun p hp => by
  have := pairs_mem (show p ∈ pairs (expand l0) (expand l1) from hp)
  exact ⟨exp_tv (TG_0 h) _ this.1, exp_tv (TG_1 h) _ this.2⟩
def cAt (ps : List S85) (i : Nat) : Bool := (ps[i]?.map cp).getD false
theorem cAt_eq {ps : List S85} {i : Nat} (h : i < ps.length) : cAt ps i = cp ps[i] := by
  unfold cAt
  rw [List.getElem?_eq_getElem h]
  rfl
theorem ic_at {ps : List S85} (h : pvs ps) (i : Nat) (hi : i < ps.length) (k : Nat) (hk : 14 ≤ k) : impl_soundPair_concord.f k ps[i].f0.f0 ps[i].f0.f1 ps[i].f1.f0 ps[i].f1.f1 = some (cAt ps i) := by
  have := h ps[i] (List.getElem_mem hi)
  rw [cAt_eq hi]
  exact cci_f _ _ _ _ this.1 this.2 k hk
theorem sc_at {l0 l1 : List S44} (h : TG l0 l1 = true) (i : Nat) (hi : i < (PS l0 l1).length) (k : Nat) (hk : 14 ≤ k) : spec_l8Concord.f k (PS l0 l1)[i].f0.f0 (PS l0 l1)[i].f0.f1 (PS l0 l1)[i].f1.f0 (PS l0 l1)[i].f1.f1 = some (cAt (PS l0 l1) i) := by
  have := PS_pv h (PS l0 l1)[i] (List.getElem_mem hi)
  rw [cAt_eq hi]
  exact ccs_f _ _ _ _ this.1 this.2 k hk
/-- The strong beats from the i-th on, d beats long, that are concords. -/
def LI (c : Nat → Bool) : Nat → Nat → List Int
  | 0, _ => []
  | d + 1, i => (if i % 3 = 0 ∧ c i = true then [(i : Int)] else []) ++ LI c d (i + 1)
theorem LI_three (c : Nat → Bool) (n i : Nat) (h3 : i % 3 = 0) (hi : i < n) : LI c (n - i) i = (if c i = true then [(i : Int)] else []) ++ LI c (n - (i + 3)) (i + 3) := by
  have n1 : ¬ ((i + 1) % 3 = 0 ∧ c (i + 1) = true) := fun h => by omega
  have n2 : ¬ ((i + 1 + 1) % 3 = 0 ∧ c (i + 1 + 1) = true) := fun h => by omega
  have e0 : (if i % 3 = 0 ∧ c i = true then [(i : Int)] else []) = (if c i = true then [(i : Int)] else []) := by simp [h3]
  by_cases h1 : n - i = 1
  · rw [h1, show n - (i + 3) = 0 by omega]
    simp only [LI]
    rw [e0]
  · by_cases h2 : n - i = 2
    · rw [h2, show n - (i + 3) = 0 by omega]
      simp only [LI]
      rw [e0, if_neg n1]
      simp
    · obtain ⟨r, hr⟩ : ∃ r, n - i = r + 3 := ⟨n - i - 3, by omega⟩
      rw [hr, show n - (i + 3) = r by omega]
      simp only [LI]
      rw [e0, if_neg n1, if_neg n2]
      simp
theorem LI_len (c : Nat → Bool) : ∀ d i, (LI c d i).length ≤ (i + d + 2) / 3 - (i + 2) / 3 ∧ ((LI c d i).length = (i + d + 2) / 3 - (i + 2) / 3 ↔ ∀ j, i ≤ j → j < i + d → j % 3 = 0 → c j = true)
  | 0, i => by
    refine ⟨by simp [LI], ?_⟩
    constructor
    · intro _ j h1 h2
      omega
    · intro _
      simp [LI]
  | d + 1, i => by
    obtain ⟨h1, h2⟩ := LI_len c d (i + 1)
    have e : i + (d + 1) = i + 1 + d := by omega
    rw [e]
    by_cases h3 : i % 3 = 0
    · by_cases hc : c i = true
      · have el : (LI c (d + 1) i).length = 1 + (LI c d (i + 1)).length := by simp [LI, h3, hc, Nat.add_comm]
        rw [el]
        refine ⟨by omega, ?_⟩
        constructor
        · intro h j g1 g2 g3
          by_cases hj : j = i
          · rw [hj]; exact hc
          · exact (h2.1 (by omega)) j (by omega) g2 g3
        · intro h
          have := h2.2 (fun j g1 g2 g3 => h j (by omega) g2 g3)
          omega
      · have el : (LI c (d + 1) i).length = (LI c d (i + 1)).length := by simp [LI, hc]
        rw [el]
        refine ⟨by omega, ?_⟩
        constructor
        · intro h
          omega
        · intro h
          exact absurd (h i (Nat.le_refl _) (by omega) h3) hc
    · have el : (LI c (d + 1) i).length = (LI c d (i + 1)).length := by simp [LI, h3]
      rw [el]
      refine ⟨by omega, ?_⟩
      constructor
      · intro h j g1 g2 g3
        exact (h2.1 (by omega)) j (by omega) g2 g3
      · intro h
        have := h2.2 (fun j g1 g2 g3 => h j (by omega) g2 g3)
        omega
theorem conci_l0 (ps : List S85) (hv : pvs ps) (hn : ps.length ≤ 24) : ∀ (d i k : Nat) (acc : List Int), i + d = ps.length → acc.length ≤ i → d + 20 ≤ k → impl_DiscantConcords.l0 k acc ps (ps.length : Int) (i : Int) = some (acc ++ LI (cAt ps) d i) := by
  intro d
  induction d with
  | zero =>
    intro i k acc hi ha hk
    obtain ⟨k, rfl⟩ : ∃ m, k = m + 1 := ⟨k - 1, by omega⟩
    simp only [impl_DiscantConcords.l0]
    rw [if_neg (by omega)]
    simp [LI]
  | succ d ih =>
    intro i k acc hi ha hk
    obtain ⟨k, rfl⟩ : ∃ m, k = m + 1 := ⟨k - 1, by omega⟩
    have hx : i < ps.length := by omega
    have em : Int.tmod (i : Int) 3 = ((i % 3 : Nat) : Int) := by rw [Int.tmod_eq_emod_of_nonneg (by omega)]; omega
    simp only [impl_DiscantConcords.l0]
    rw [if_pos (by omega), if_pos (by omega), if_pos (by omega), em, rdp_at ps i hx, ic_at hv i hx k (by omega), Option.bind_some, w1 (by omega)]
    by_cases h3 : i % 3 = 0
    · rw [if_pos (by omega)]
      by_cases hc : cAt ps i = true
      · rw [if_pos hc, if_pos (by omega), ih (i + 1) k (acc ++ [(i : Int)]) (by omega) (by simp; omega) (by omega)]
        simp [LI, h3, hc]
      · rw [if_neg hc, ih (i + 1) k acc (by omega) (by omega) (by omega)]
        simp [LI, hc]
    · rw [if_neg (by omega), ih (i + 1) k acc (by omega) (by omega) (by omega)]
      simp [LI, h3]
theorem concs_l0 {l0 l1 : List S44} (h : TG l0 l1 = true) : ∀ (d i k : Nat) (acc : List Int), i % 3 = 0 → (PS l0 l1).length ≤ i + 3 * d → i ≤ 30 → acc.length ≤ i → d + 20 ≤ k → spec_DiscantConcords.l0 k l0 l1 acc (i : Int) = some (acc ++ LI (cAt (PS l0 l1)) ((PS l0 l1).length - i) i) := by
  have hn := PS_bd h
  have stop : ∀ (i k : Nat) (acc : List Int), ¬ i < (PS l0 l1).length → 20 ≤ k → spec_DiscantConcords.l0 k l0 l1 acc (i : Int) = some (acc ++ LI (cAt (PS l0 l1)) ((PS l0 l1).length - i) i) := by
    intro i k acc hi hk
    obtain ⟨k, rfl⟩ : ∃ m, k = m + 1 := ⟨k - 1, by omega⟩
    simp only [spec_DiscantConcords.l0]
    rw [beats_tg h k (by omega)]
    simp only [Option.bind_some]
    rw [if_neg (by omega), show (PS l0 l1).length - i = 0 by omega]
    simp [LI]
  intro d
  induction d with
  | zero =>
    intro i k acc h3 hi hi2 ha hk
    exact stop i k acc (by omega) (by omega)
  | succ d ih =>
    intro i k acc h3 hi hi2 ha hk
    by_cases hx : i < (PS l0 l1).length
    · obtain ⟨k, rfl⟩ : ∃ m, k = m + 1 := ⟨k - 1, by omega⟩
      obtain ⟨a0, a1⟩ := PS_at h i hx k (by omega)
      have e3 : wrap64 ((i : Int) + 3) = ((i + 3 : Nat) : Int) := by rw [w0 (by omega) (by omega)]; omega
      rw [LI_three _ _ i h3 hx]
      simp only [spec_DiscantConcords.l0]
      rw [beats_tg h k (by omega)]
      simp only [Option.bind_some]
      rw [if_pos (by omega), a0, a1]
      simp only [Option.bind_some]
      rw [sc_at h i hx k (by omega)]
      simp only [Option.bind_some]
      rw [e3]
      by_cases hc : cAt (PS l0 l1) i = true
      · rw [if_pos hc, if_pos (by omega), ih (i + 3) k (acc ++ [(i : Int)]) (by omega) (by omega) (by omega) (by simp; omega) (by omega), if_pos hc, List.append_assoc]
      · rw [if_neg hc, ih (i + 3) k acc (by omega) (by omega) (by omega) (by omega) (by omega), if_neg hc, List.nil_append]
    · exact stop i k acc hx (by omega)
def DC (l0 l1 : List S44) : List Int := if TG l0 l1 = true then LI (cAt (PS l0 l1)) (PS l0 l1).length 0 else []
theorem dci_f (l0 l1 : List S44) (k : Nat) (hk : 60 ≤ k) : impl_DiscantConcords.f k l0 l1 = some (DC l0 l1) := by
  unfold impl_DiscantConcords.f DC
  rw [so_f l0 l1 k (by omega)]
  simp only [Option.bind_some]
  by_cases h : TG l0 l1 = true
  · rw [if_pos h, if_pos h]
    have hn := PS_bd h
    simpa using conci_l0 (PS l0 l1) (PS_pv h) hn (PS l0 l1).length 0 k [] (by omega) (by simp) (by omega)
  · rw [if_neg h, if_neg h]
    simpa [LI] using conci_l0 ([] : List S85) (fun p hp => by cases hp) (by simp) 0 0 k [] rfl (by simp) (by omega)
theorem dcs_f (l0 l1 : List S44) (hb0 : l0.length ≤ 1048576) (hb1 : l1.length ≤ 1048576) (k : Nat) (hk : l0.length + l1.length + 60 < k) : spec_DiscantConcords.f k l0 l1 = some (DC l0 l1) := by
  unfold spec_DiscantConcords.f DC
  simp only [Option.bind_some]
  rw [tg_f l0 l1 hb0 hb1 k (by omega)]
  simp only [Option.bind_some]
  by_cases h : TG l0 l1 = true
  · rw [if_pos h, if_pos h]
    have hn := PS_bd h
    simpa using concs_l0 h 8 0 k [] rfl (by omega) (by omega) (by simp) (by omega)
  · rw [if_neg h, if_neg h]
theorem DC_len (l0 l1 : List S44) : (DC l0 l1).length ≤ 8 := by
  unfold DC
  by_cases h : TG l0 l1 = true
  · rw [if_pos h]
    have hn := PS_bd h
    have := (LI_len (cAt (PS l0 l1)) (PS l0 l1).length 0).1
    omega
  · rw [if_neg h]
    simp
def swp (p : S85) : S85 := ⟨p.f1, p.f0⟩
theorem pairs_swap (xs : List S30) : ∀ ys : List S30, pairs ys xs = (pairs xs ys).map swp := by
  induction xs with
  | nil => intro ys; cases ys <;> rfl
  | cons x xs ih =>
    intro ys
    cases ys with
    | nil => rfl
    | cons y ys =>
      have := ih ys
      unfold pairs at this ⊢
      rw [List.zipWith_cons_cons, List.zipWith_cons_cons, this]
      rfl
theorem TG_swap {a b : List S44} (h : TG a b = true) : TG b a = true := by
  unfold TG
  rw [TG_0 h, TG_1 h, TG_2 h]
  simp
theorem TG_refl {a : List S44} (h : PV a = true) : TG a a = true := by
  unfold TG
  rw [h]
  simp
theorem cc_sym_fin : ∀ b d : Bool, ∀ n : Nat, n < 21 → ∀ m : Nat, m < 21 → (if (tv (n : Int) b && tv (m : Int) d) = true then decide (CC (m : Int) d (n : Int) b = CC (n : Int) b (m : Int) d) else true) = true := by decide +kernel
theorem cc_self_fin : ∀ b : Bool, ∀ n : Nat, n < 21 → (if tv (n : Int) b = true then CC (n : Int) b (n : Int) b else true) = true := by decide +kernel
theorem cc_up_fin : ∀ b d : Bool, ∀ n : Nat, n < 21 → ∀ m : Nat, m < 14 → (if (tv (n : Int) b && tv (m : Int) d) = true then decide (CC (n : Int) b ((m + 7 : Nat) : Int) d = CC (n : Int) b (m : Int) d) else true) = true := by decide +kernel
theorem tv_nat {a : Int} {b : Bool} (h : tv a b = true) : ∃ n : Nat, a = (n : Int) ∧ n < 21 := by
  unfold tv at h
  simp only [Bool.and_eq_true, decide_eq_true_eq] at h
  obtain ⟨n, rfl⟩ := Int.eq_ofNat_of_zero_le h.1
  exact ⟨n, rfl, by omega⟩
theorem cc_sym {a c : Int} {b d : Bool} (h1 : tv a b = true) (h2 : tv c d = true) : CC c d a b = CC a b c d := by
  obtain ⟨n, rfl, hn⟩ := tv_nat h1
  obtain ⟨m, rfl, hm⟩ := tv_nat h2
  have := cc_sym_fin b d n hn m hm
  rw [h1, h2, if_pos (by rfl)] at this
  exact of_decide_eq_true this
theorem cc_self {a : Int} {b : Bool} (h1 : tv a b = true) : CC a b a b = true := by
  obtain ⟨n, rfl, hn⟩ := tv_nat h1
  have := cc_self_fin b n hn
  rw [h1, if_pos rfl] at this
  exact this
theorem cc_up {a c : Int} {b d : Bool} (h1 : tv a b = true) (h2 : tv c d = true) (h3 : c + 7 ≤ 20) : CC a b (c + 7) d = CC a b c d := by
  obtain ⟨n, rfl, hn⟩ := tv_nat h1
  obtain ⟨m, rfl, hm⟩ := tv_nat h2
  have := cc_up_fin b d n hn m (by omega)
  rw [h1, h2, if_pos (by rfl)] at this
  exact of_decide_eq_true this
theorem cp_swap {p : S85} (h : pv p) : cp (swp p) = cp p := cc_sym h.1 h.2
theorem pv_swap {p : S85} (h : pv p) : pv (swp p) := ⟨h.2, h.1⟩
theorem cAt_swap {a b : List S44} (h : TG a b = true) (i : Nat) (hi : i < (PS a b).length) : cAt (PS b a) i = cAt (PS a b) i := by
  have e : PS b a = (PS a b).map swp := by unfold PS; rw [pairs_swap]
  have hi2 : i < (PS b a).length := by rw [e]; simpa using hi
  rw [cAt_eq hi, cAt_eq hi2]
  have e2 : (PS b a)[i] = swp (PS a b)[i] := by simp [e]
  rw [e2, cp_swap (PS_pv h _ (List.getElem_mem hi))]
theorem PS_len_swap (a b : List S44) : (PS b a).length = (PS a b).length := by
  unfold PS
  rw [pairs_swap]
  simp
theorem cAt_self {a : List S44} (h : PV a = true) (i : Nat) (hi : i < (PS a a).length) : cAt (PS a a) i = true := by
  have hp := PS_pv (TG_refl h) _ (List.getElem_mem hi)
  rw [cAt_eq hi]
  have e : (PS a a)[i].f1 = (PS a a)[i].f0 := by simp [PS, pairs]
  unfold cp
  rw [e]
  exact cc_self hp.1
theorem LI_congr {c c' : Nat → Bool} : ∀ d i, (∀ j, i ≤ j → j < i + d → c j = c' j) → LI c d i = LI c' d i
  | 0, _, _ => rfl
  | d + 1, i, h => by
    simp only [LI]
    rw [h i (Nat.le_refl _) (by omega), LI_congr d (i + 1) (fun j g1 g2 => h j (by omega) (by omega))]
theorem LI_mem {c : Nat → Bool} : ∀ d i (x : Int), x ∈ LI c d i → ∃ j : Nat, x = (j : Int) ∧ i ≤ j ∧ j < i + d ∧ j % 3 = 0 ∧ c j = true
  | 0, _, x, h => by simp [LI] at h
  | d + 1, i, x, h => by
    simp only [LI, List.mem_append] at h
    rcases h with h | h
    · split at h
      · rename_i hc
        have : x = (i : Int) := by simpa using h
        exact ⟨i, this, Nat.le_refl _, by omega, hc.1, hc.2⟩
      · simp at h
    · obtain ⟨j, h1, h2, h3, h4, h5⟩ := LI_mem d (i + 1) x h
      exact ⟨j, h1, by omega, by omega, h4, h5⟩
theorem cc_last_fin : ∀ b d : Bool, ∀ n : Nat, n < 21 → ∀ m : Nat, m < 21 → (if (tv (n : Int) b && (tv (m : Int) d && CC (n : Int) b (m : Int) d)) = true then (match impl_ToneInterval.f 14 (n : Int) b (m : Int) d with | some s => decide (0 < s.size) && (decide (s.size < 100) && decide (bt s ((s.size : Int) - 1) = 112)) | none => false) else true) = true := by decide +kernel
theorem cc_last {a c : Int} {b d : Bool} (h1 : tv a b = true) (h2 : tv c d = true) (h3 : CC a b c d = true) : ∃ s : ByteArray, (∀ k, 14 ≤ k → impl_ToneInterval.f k a b c d = some s) ∧ 0 < s.size ∧ s.size < 100 ∧ bt s ((s.size : Int) - 1) = 112 := by
  obtain ⟨n, rfl, hn⟩ := tv_nat h1
  obtain ⟨m, rfl, hm⟩ := tv_nat h2
  have := cc_last_fin b d n hn m hm
  rw [h1, h2, h3, if_pos (by rfl)] at this
  cases e : impl_ToneInterval.f 14 (n : Int) b (m : Int) d with
  | none => rw [e] at this; exact absurd this (by decide)
  | some s =>
    rw [e] at this
    simp only [Bool.and_eq_true, decide_eq_true_eq] at this
    exact ⟨s, fun k hk => at_rounds (impl_ToneInterval.mono _ _ _ _) hk e, this.1, this.2.1, this.2.2⟩
def PA (l : List S44) (a : Int) : Int × Bool × Bool := if PV l = true then (if 0 ≤ a then (if a < ((expand l).length : Int) then (((expand l).getD a.toNat z30).f0, ((expand l).getD a.toNat z30).f1, true) else (0, false, false)) else (0, false, false)) else (0, false, false)
theorem pai_f (l : List S44) (a : Int) (k : Nat) (hk : 13 ≤ k) : impl_PartAt.f k l a = some (PA l a) := by
  unfold impl_PartAt.f PA
  rw [pvi_f l k hk]
  rfl
theorem PA_in' {a : List S44} (h : PV a = true) (j : Nat) (hj : j < (expand a).length) : PA a (j : Int) = ((expand a)[j].f0, (expand a)[j].f1, true) := by
  unfold PA
  rw [if_pos h, if_pos (by omega), if_pos (by omega)]
  simp [List.getD_eq_getElem?_getD, hj]
theorem pbi_f (l : List S44) (k : Nat) (hk : 13 ≤ k) : impl_PartBeats.f k l = some (PB l) := by
  unfold impl_PartBeats.f PB
  rw [pvi_f l k hk]
  simp only [Option.bind_some]
  by_cases h : PV l = true
  · rw [if_pos h, if_pos h, expand_sum l (PV_all h)]
  · rw [if_neg h, if_neg h]
theorem sameI_l0 (xs : List Int) (hb : xs.length ≤ 1048576) : ∀ (d i k : Nat), i + d = xs.length → d < k → laws_sameInts.l0 k xs xs (i : Int) = some true := by
  intro d
  induction d with
  | zero =>
    intro i k hi hk
    obtain ⟨k, rfl⟩ : ∃ m, k = m + 1 := ⟨k - 1, by omega⟩
    simp only [laws_sameInts.l0]
    rw [if_neg (by omega)]
  | succ d ih =>
    intro i k hi hk
    obtain ⟨k, rfl⟩ : ∃ m, k = m + 1 := ⟨k - 1, by omega⟩
    simp only [laws_sameInts.l0]
    rw [if_pos (by omega), if_pos (by omega), if_pos (by omega), if_pos trivial, w1 (by omega)]
    exact ih (i + 1) k (by omega) (by omega)
theorem sameI_f (xs : List Int) (k : Nat) (hb : xs.length ≤ 1048576) (hk : xs.length < k) : laws_sameInts.f k xs xs = some true := by
  unfold laws_sameInts.f
  rw [if_pos rfl]
  simpa using sameI_l0 xs hb xs.length 0 k (by omega) hk
theorem xor_nn (a b : Int) (ha : 0 ≤ a) (ha' : a < 4611686018427387904) (hb : 0 ≤ b) (hb' : b < 4611686018427387904) : 0 ≤ Go.bits .xor .i64 a b := by
  obtain ⟨x, rfl⟩ := Int.eq_ofNat_of_zero_le ha
  obtain ⟨y, rfl⟩ := Int.eq_ofNat_of_zero_le hb
  have hx : x ^^^ y < 2 ^ 62 := Nat.xor_lt_two_pow (by omega) (by omega)
  have h1 : (BitVec.ofInt 64 (x : Int)).toNat = x := by
    rw [BitVec.ofInt_natCast, BitVec.toNat_ofNat]; exact Nat.mod_eq_of_lt (by omega)
  have h2 : (BitVec.ofInt 64 (y : Int)).toNat = y := by
    rw [BitVec.ofInt_natCast, BitVec.toNat_ofNat]; exact Nat.mod_eq_of_lt (by omega)
  have e : Go.bits .xor .i64 (x : Int) (y : Int) = IntKind.i64.wrap (((x ^^^ y : Nat)) : Int) := by
    show IntKind.i64.wrap ((BitVec.ofInt 64 (x : Int) ^^^ BitVec.ofInt 64 (y : Int)).toNat : Int) = _
    rw [BitVec.toNat_xor, h1, h2]
  rw [e, IntWalk.i64_in _ (by omega)]
  omega
/-- A list of bytes. -/
def Bytes (l : List Int) : Prop := ∀ n ∈ l, 0 ≤ n ∧ n ≤ 255
theorem rd_byte {l : List Int} (h : Bytes l) (i : Int) (h0 : 0 ≤ i) (h1 : i < (l.length : Int)) : 0 ≤ rd l i ∧ rd l i ≤ 255 := by
  obtain ⟨n, rfl⟩ := Int.eq_ofNat_of_zero_le h0
  have hn : n < l.length := by omega
  rw [rd_at l n hn]
  exact h _ (List.getElem_mem hn)
theorem tm_bd (a n : Int) (ha : 0 ≤ a) (hn : 0 < n) : 0 ≤ Int.tmod a n ∧ Int.tmod a n < n := by
  rw [Int.tmod_eq_emod_of_nonneg ha]
  exact ⟨Int.emod_nonneg _ (by omega), Int.emod_lt_of_pos _ hn⟩
theorem td_bd (a n : Int) (ha : 0 ≤ a) (hn : 0 < n) : 0 ≤ Int.tdiv a n ∧ Int.tdiv a n ≤ a := by
  rw [Int.tdiv_eq_ediv_of_nonneg ha]
  exact ⟨Int.ediv_nonneg ha (by omega), Int.ediv_le_self _ ha⟩
theorem pick_some (l : List Int) (hl : Bytes l) (hn : l.length ≤ 2000) (p n : Int) (hp : 0 ≤ p) (hp' : p ≤ 1000000) (h1 : 1 ≤ n) (h2 : n ≤ 1000000) :
    ∃ v, 0 ≤ v ∧ v < n ∧ ∀ k, spec_l6Rd_pick.f (k + 1) l p n = some (v, p + 1) := by
  unfold spec_l6Rd_pick.f
  simp only [spec_l6Rd_pick.j0]
  rw [if_neg (show ¬ n < 1 by omega), w0 (i := p + 1) (by omega) (by omega), show p + 1 - 1 = p by omega, w0 (i := p) (by omega) (by omega)]
  by_cases hl0 : l.length = 0
  · refine ⟨0, by omega, by omega, fun k => ?_⟩
    rw [if_pos (show ((l.length : Int) == 0) = true by rw [hl0]; rfl)]
  · rw [if_neg (show ¬ (((l.length : Int) == 0) = true) from fun h => hl0 (by have := beq_iff_eq.1 h; omega))]
    have hlp : (0 : Int) < (l.length : Int) := by omega
    by_cases hpl : p < (l.length : Int)
    · obtain ⟨b0, b1⟩ := rd_byte hl p hp hpl
      rw [if_pos hpl, if_pos hp, if_neg (show ¬ n = 0 by omega), w0 (i := rd l p) (by omega) (by omega)]
      obtain ⟨t0, t1⟩ := tm_bd (rd l p) n b0 (by omega)
      exact ⟨_, t0, t1, fun _ => rfl⟩
    · rw [if_neg hpl, if_neg (show ¬ (l.length : Int) = 0 by omega), w0 (i := p * 7) (by omega) (by omega), w0 (i := p * 7 + 3) (by omega) (by omega)]
      obtain ⟨i0, i1⟩ := tm_bd p (l.length : Int) hp hlp
      obtain ⟨j0, j1⟩ := tm_bd (p * 7 + 3) (l.length : Int) (by omega) hlp
      obtain ⟨q0, q1⟩ := td_bd p (l.length : Int) hp hlp
      rw [if_pos i0, if_pos i1, if_pos j0, if_pos j1, if_neg (show ¬ n = 0 by omega)]
      obtain ⟨a0, a1⟩ := rd_byte hl _ i0 i1
      obtain ⟨b0, b1⟩ := rd_byte hl _ j0 j1
      generalize rd l (Int.tmod p (l.length : Int)) = a at a0 a1 ⊢
      generalize rd l (Int.tmod (p * 7 + 3) (l.length : Int)) = b at b0 b1 ⊢
      generalize Int.tdiv p (l.length : Int) = q at q0 q1 ⊢
      simp (disch := omega) only [w0]
      have x0 : 0 ≤ a * 131 + b * 1117 + p * 29 + q * 53 := by omega
      obtain ⟨d0, d1⟩ := td_bd (a * 131 + b * 1117 + p * 29 + q * 53) 64 x0 (by omega)
      rw [w0 (i := Int.tdiv (a * 131 + b * 1117 + p * 29 + q * 53) 64) (by omega) (by omega)]
      obtain ⟨t0, t1⟩ := tm_bd (Go.bits .xor .i64 (a * 131 + b * 1117 + p * 29 + q * 53) (Int.tdiv (a * 131 + b * 1117 + p * 29 + q * 53) 64)) n (xor_nn _ _ x0 (by omega) d0 (by omega)) (by omega)
      exact ⟨_, t0, t1, fun _ => rfl⟩
/-- What a reader's pick answers. -/
def pk (l : List Int) (p n : Int) : Int := ((spec_l6Rd_pick.f 1 l p n).getD (0, 0)).1
structure Rdr (l : List Int) : Prop where
  bytes : Bytes l
  len : l.length ≤ 2000
theorem pk_f {l : List Int} (h : Rdr l) (p n : Int) (k : Nat) (hp : 0 ≤ p) (hp' : p ≤ 1000000) (h1 : 1 ≤ n) (h2 : n ≤ 1000000) (hk : 1 ≤ k) : spec_l6Rd_pick.f k l p n = some (pk l p n, p + 1) := by
  obtain ⟨v, _, _, hv⟩ := pick_some l h.bytes h.len p n hp hp' h1 h2
  unfold pk
  rw [hv 0]
  obtain ⟨k, rfl⟩ : ∃ m, k = m + 1 := ⟨k - 1, by omega⟩
  rw [hv k]
  rfl
theorem pk_bd {l : List Int} (h : Rdr l) (p n : Int) (hp : 0 ≤ p) (hp' : p ≤ 1000000) (h1 : 1 ≤ n) (h2 : n ≤ 1000000) : 0 ≤ pk l p n ∧ pk l p n < n := by
  obtain ⟨v, h3, h4, hv⟩ := pick_some l h.bytes h.len p n hp hp' h1 h2
  unfold pk
  rw [hv 0]
  exact ⟨h3, h4⟩
theorem open_f (l : List Int) (hl : Bytes l) : ∃ s, spec_l6Open.f l = some (s, 0) ∧ Rdr s := by
  unfold spec_l6Open.f
  by_cases h : (l.length : Int) > 2000
  · rw [if_pos h, if_pos (by omega)]
    exact ⟨_, rfl, ⟨fun n hn => hl n (List.mem_of_mem_take hn), by simp; omega⟩⟩
  · rw [if_neg h]
    exact ⟨_, rfl, ⟨hl, by omega⟩⟩
theorem bytes_of {l : List Int} (h : ∀ n ∈ l, (Lit.int .u8 n).wf = true) : Bytes l := fun n hn => by
  have := h n hn
  simp [Lit.wf, IntKind.min, IntKind.max, IntKind.signed, IntKind.bits] at this
  omega
theorem letter_f (a : Int) : spec_l1Letter.f a = some (Int.tmod a 7) := rfl
theorem clamp_bd (a b x : Int) (h : a ≤ b) : a ≤ mx a (mn b x) ∧ mx a (mn b x) ≤ b := by
  unfold mx mn
  constructor <;> (repeat' split) <;> omega
theorem part_end (l : List Int) (h : Rdr l) (acc : List S44) (x1 x6 p : Int) (ha : acc.length ≤ 12) (hp : 0 ≤ p) (hp' : p ≤ 100000) :
    ∃ out q, out.length ≤ 12 ∧ p ≤ q ∧ q ≤ p + 2 ∧ ∀ k, 2 ≤ k → spec_l92Part.j1 k x1 acc x6 false l p = some (out, q) := by
  by_cases h0 : acc.length = 0
  · refine ⟨acc, p, ha, by omega, by omega, fun k hk => ?_⟩
    obtain ⟨k, rfl⟩ : ∃ m, k = m + 1 := ⟨k - 1, by omega⟩
    rw [spec_l92Part.j1, if_neg (by decide), if_neg (by omega)]
  · by_cases h1 : pk l p 50 = 0
    · obtain ⟨v0, v1⟩ := pk_bd h (p + 1) 2 (by omega) (by omega) (by omega) (by omega)
      refine ⟨acc.set (0 : Int).toNat ⟨⟨(rd_T44 acc 0).f0.f0, (rd_T44 acc 0).f0.f1⟩, rd ([0, 4] : List Int) (pk l (p + 1) 2)⟩, p + 1 + 1, by simp; omega, by omega, by omega, fun k hk => ?_⟩
      obtain ⟨k, rfl⟩ : ∃ m, k = m + 1 := ⟨k - 1, by omega⟩
      rw [spec_l92Part.j1, if_neg (by decide), if_pos (by omega), pk_f h p 50 k (by omega) (by omega) (by omega) (by omega) (by omega)]
      simp only [Option.bind_some]
      rw [if_pos h1, pk_f h (p + 1) 2 k (by omega) (by omega) (by omega) (by omega) (by omega)]
      simp only [Option.bind_some]
      rw [if_pos v0, if_pos (by simpa using v1), if_pos (by omega)]
    · by_cases h2 : pk l p 50 = 1
      · refine ⟨acc.set (0 : Int).toNat ⟨⟨21, (rd_T44 acc 0).f0.f1⟩, (rd_T44 acc 0).f1⟩, p + 1, by simp; omega, by omega, by omega, fun k hk => ?_⟩
        obtain ⟨k, rfl⟩ : ∃ m, k = m + 1 := ⟨k - 1, by omega⟩
        rw [spec_l92Part.j1, if_neg (by decide), if_pos (by omega), pk_f h p 50 k (by omega) (by omega) (by omega) (by omega) (by omega)]
        simp only [Option.bind_some]
        rw [if_neg h1, if_pos h2, if_pos (by omega)]
      · refine ⟨acc, p + 1, ha, by omega, by omega, fun k hk => ?_⟩
        obtain ⟨k, rfl⟩ : ∃ m, k = m + 1 := ⟨k - 1, by omega⟩
        rw [spec_l92Part.j1, if_neg (by decide), if_pos (by omega), pk_f h p 50 k (by omega) (by omega) (by omega) (by omega) (by omega)]
        simp only [Option.bind_some]
        rw [if_neg h1, if_neg h2]
theorem part_l0 (l : List Int) (h : Rdr l) : ∀ (d : Nat) (acc : List S44) (x1 x6 p : Int), acc.length + d = 12 → 0 ≤ x1 → x1 ≤ 1000 → 0 ≤ x6 → x6 ≤ 20 → 0 ≤ p → p ≤ 10000 + 3 * acc.length →
    ∃ out q, out.length ≤ 12 ∧ p ≤ q ∧ q ≤ p + 3 * d + 2 ∧ ∀ k, 2 * d + 4 ≤ k → spec_l92Part.l0 k x1 acc x6 l p = some (out, q) := by
  intro d
  induction d with
  | zero =>
    intro acc x1 x6 p ha h0 h1 h2 h3 hp hp'
    obtain ⟨out, q, ho, q0, q1, hq⟩ := part_end l h acc x1 x6 p (by omega) hp (by omega)
    refine ⟨out, q, ho, q0, by omega, fun k hk => ?_⟩
    obtain ⟨k, rfl⟩ : ∃ m, k = m + 1 := ⟨k - 1, by omega⟩
    rw [spec_l92Part.l0, decide_eq_false (show ¬ (acc.length : Int) < 12 by omega)]
    split
    · exact hq k (by omega)
    · exact hq k (by omega)
  | succ d ih =>
    intro acc x1 x6 p ha h0 h1 h2 h3 hp hp'
    by_cases hx1 : x1 > 0
    · have hmn : 1 ≤ mn 3 x1 ∧ mn 3 x1 ≤ 3 ∧ mn 3 x1 ≤ x1 := by
        unfold mn
        split <;> omega
      obtain ⟨n0, n1⟩ := pk_bd h p (mn 3 x1) (by omega) (by omega) (by omega) (by omega)
      have hn := fun k (hk : 1 ≤ k) => pk_f h p (mn 3 x1) k (by omega) (by omega) (by omega) (by omega) hk
      by_cases hx : Int.tmod x6 7 = 2
      · obtain ⟨v0, v1⟩ := pk_bd h (p + 1 + 1) 5 (by omega) (by omega) (by omega) (by omega)
        obtain ⟨c0, c1⟩ := clamp_bd 1 16 (x6 + pk l (p + 1 + 1) 5 - 2) (by omega)
        obtain ⟨out, q, ho, q0, q1, hq⟩ := ih (acc ++ [⟨⟨x6, pk l (p + 1) 3 == 0⟩, 1 + pk l p (mn 3 x1)⟩]) (x1 - (1 + pk l p (mn 3 x1))) (mx 1 (mn 16 (x6 + pk l (p + 1 + 1) 5 - 2))) (p + 1 + 1 + 1) (by simp; omega) (by omega) (by omega) (by omega) (by omega) (by omega) (by simp; omega)
        refine ⟨out, q, ho, by omega, by omega, fun k hk => ?_⟩
        obtain ⟨k, rfl⟩ : ∃ m, k = m + 2 := ⟨k - 2, by omega⟩
        rw [spec_l92Part.l0, if_pos hx1, decide_eq_true (show (acc.length : Int) < 12 by omega), spec_l92Part.j1, if_pos rfl, hn k (by omega)]
        simp only [Option.bind_some]
        rw [letter_f]
        simp only [Option.bind_some]
        rw [if_pos hx, pk_f h (p + 1) 3 k (by omega) (by omega) (by omega) (by omega) (by omega)]
        simp only [Option.bind_some]
        rw [if_pos (by omega), pk_f h (p + 1 + 1) 5 k (by omega) (by omega) (by omega) (by omega) (by omega)]
        simp only [Option.bind_some]
        rw [w0 (i := 1 + pk l p (mn 3 x1)) (by omega) (by omega), w0 (i := x1 - (1 + pk l p (mn 3 x1))) (by omega) (by omega), w0 (i := x6 + pk l (p + 1 + 1) 5) (by omega) (by omega), w0 (i := x6 + pk l (p + 1 + 1) 5 - 2) (by omega) (by omega)]
        exact hq k (by omega)
      · obtain ⟨v0, v1⟩ := pk_bd h (p + 1) 5 (by omega) (by omega) (by omega) (by omega)
        obtain ⟨c0, c1⟩ := clamp_bd 1 16 (x6 + pk l (p + 1) 5 - 2) (by omega)
        obtain ⟨out, q, ho, q0, q1, hq⟩ := ih (acc ++ [⟨⟨x6, false⟩, 1 + pk l p (mn 3 x1)⟩]) (x1 - (1 + pk l p (mn 3 x1))) (mx 1 (mn 16 (x6 + pk l (p + 1) 5 - 2))) (p + 1 + 1) (by simp; omega) (by omega) (by omega) (by omega) (by omega) (by omega) (by simp; omega)
        refine ⟨out, q, ho, by omega, by omega, fun k hk => ?_⟩
        obtain ⟨k, rfl⟩ : ∃ m, k = m + 2 := ⟨k - 2, by omega⟩
        rw [spec_l92Part.l0, if_pos hx1, decide_eq_true (show (acc.length : Int) < 12 by omega), spec_l92Part.j1, if_pos rfl, hn k (by omega)]
        simp only [Option.bind_some]
        rw [letter_f]
        simp only [Option.bind_some]
        rw [if_neg hx, if_pos (by omega), pk_f h (p + 1) 5 k (by omega) (by omega) (by omega) (by omega) (by omega)]
        simp only [Option.bind_some]
        rw [w0 (i := 1 + pk l p (mn 3 x1)) (by omega) (by omega), w0 (i := x1 - (1 + pk l p (mn 3 x1))) (by omega) (by omega), w0 (i := x6 + pk l (p + 1) 5) (by omega) (by omega), w0 (i := x6 + pk l (p + 1) 5 - 2) (by omega) (by omega)]
        exact hq k (by omega)
    · obtain ⟨out, q, ho, q0, q1, hq⟩ := part_end l h acc x1 x6 p (by omega) hp (by omega)
      refine ⟨out, q, ho, q0, by omega, fun k hk => ?_⟩
      obtain ⟨k, rfl⟩ : ∃ m, k = m + 1 := ⟨k - 1, by omega⟩
      rw [spec_l92Part.l0, if_neg hx1]
      exact hq k (by omega)
theorem part_d (l : List Int) (h : Rdr l) (p a : Int) (h0 : 0 ≤ a) (h1 : a ≤ 1000) (hp : 0 ≤ p) (hp' : p ≤ 9000) : ∃ out q, out.length ≤ 12 ∧ p ≤ q ∧ q ≤ p + 40 ∧ ∀ k, 40 ≤ k → spec_l92Part.f k l p a = some (out, q) := by
  obtain ⟨v0, v1⟩ := pk_bd h p 6 (by omega) (by omega) (by omega) (by omega)
  obtain ⟨out, q, ho, q0, q1, hq⟩ := part_l0 l h 12 [] a (5 + pk l p 6) (p + 1) rfl h0 h1 (by omega) (by omega) (by omega) (by simp; omega)
  refine ⟨out, q, ho, by omega, by omega, fun k hk => ?_⟩
  unfold spec_l92Part.f
  rw [pk_f h p 6 k (by omega) (by omega) (by omega) (by omega) (by omega)]
  simp only [Option.bind_some]
  rw [w0 (i := 5 + pk l p 6) (by omega) (by omega)]
  exact hq k (by omega)
theorem disc_l0 (l : List Int) (h : Rdr l) (a : List S44) : ∀ (d i : Nat) (b : List S44) (p : Int), i + d = b.length → b.length ≤ 12 → 0 ≤ p → p ≤ 10000 + i → ∃ c q, c.length ≤ 12 ∧ ∀ k, d + 2 ≤ k → spec_l92Discant.l0 k a b (i : Int) l p = some (a, c, q) := by
  intro d
  induction d with
  | zero =>
    intro i b p hi hb hp hp'
    refine ⟨b, p, hb, fun k hk => ?_⟩
    obtain ⟨k, rfl⟩ : ∃ m, k = m + 1 := ⟨k - 1, by omega⟩
    simp only [spec_l92Discant.l0]
    rw [if_neg (by omega)]
  | succ d ih =>
    intro i b p hi hb hp hp'
    obtain ⟨v0, v1⟩ := pk_bd h p 6 (by omega) (by omega) (by omega) (by omega)
    obtain ⟨c, q, hc, hq⟩ := ih (i + 1) (b.set ((i : Int)).toNat (⟨(⟨mn 20 (wrap64 ((mx 0 ((rd_T44 b (i : Int)).f0.f0)) + (rd ([4, 4, 3, 7, 0, 2] : List Int) (pk l p 6)))), false⟩ : S30), (rd_T44 b (i : Int)).f1⟩ : S44)) (p + 1) (by simp; omega) (by simpa using hb) (by omega) (by omega)
    refine ⟨c, q, hc, fun k hk => ?_⟩
    obtain ⟨k, rfl⟩ : ∃ m, k = m + 1 := ⟨k - 1, by omega⟩
    simp only [spec_l92Discant.l0, Option.bind_some]
    rw [if_pos (by omega), pk_f h p 6 k (by omega) (by omega) (by omega) (by omega) (by omega)]
    simp only [Option.bind_some]
    rw [if_pos v0, if_pos (by simpa using v1), if_pos (by omega), w1 (by omega)]
    exact hq k (by omega)
theorem disc_d (l : List Int) (h : Rdr l) (p : Int) (hp : 0 ≤ p) (hp' : p ≤ 4000) : ∃ a b q, a.length ≤ 12 ∧ b.length ≤ 12 ∧ ∀ k, 60 ≤ k → spec_l92Discant.f k l p = some (a, b, q) := by
  obtain ⟨n0, n1⟩ := pk_bd h p 12 (by omega) (by omega) (by omega) (by omega)
  obtain ⟨a, q, ha, q0, q1, hq⟩ := part_d l h (p + 1) (pk l p 12) n0 (by omega) (by omega) (by omega)
  by_cases h0 : pk l q 2 = 0
  · obtain ⟨c, q', hc, hd⟩ := disc_l0 l h a a.length 0 a (q + 1) (by omega) ha (by omega) (by omega)
    refine ⟨a, c, q', ha, hc, fun k hk => ?_⟩
    unfold spec_l92Discant.f
    rw [pk_f h p 12 k (by omega) (by omega) (by omega) (by omega) (by omega)]
    simp only [Option.bind_some]
    rw [hq k (by omega)]
    simp only [Option.bind_some]
    rw [pk_f h q 2 k (by omega) (by omega) (by omega) (by omega) (by omega)]
    simp only [Option.bind_some]
    rw [if_pos h0, if_pos (by simp; omega), List.nil_append]
    exact hd k (by omega)
  · by_cases h1 : pk l (q + 1) 8 = 0
    · obtain ⟨b, q', hb, r0, r1, hr⟩ := part_d l h (q + 1 + 1) (pk l p 12 + 1) (by omega) (by omega) (by omega) (by omega)
      refine ⟨a, b, q', ha, hb, fun k hk => ?_⟩
      unfold spec_l92Discant.f
      rw [pk_f h p 12 k (by omega) (by omega) (by omega) (by omega) (by omega)]
      simp only [Option.bind_some]
      rw [hq k (by omega)]
      simp only [Option.bind_some]
      rw [pk_f h q 2 k (by omega) (by omega) (by omega) (by omega) (by omega)]
      simp only [Option.bind_some]
      rw [if_neg h0, pk_f h (q + 1) 8 k (by omega) (by omega) (by omega) (by omega) (by omega)]
      simp only [Option.bind_some]
      rw [if_pos h1, w0 (i := pk l p 12 + 1) (by omega) (by omega), hr k (by omega)]
      rfl
    · obtain ⟨b, q', hb, r0, r1, hr⟩ := part_d l h (q + 1 + 1) (pk l p 12) (by omega) (by omega) (by omega) (by omega)
      refine ⟨a, b, q', ha, hb, fun k hk => ?_⟩
      unfold spec_l92Discant.f
      rw [pk_f h p 12 k (by omega) (by omega) (by omega) (by omega) (by omega)]
      simp only [Option.bind_some]
      rw [hq k (by omega)]
      simp only [Option.bind_some]
      rw [pk_f h q 2 k (by omega) (by omega) (by omega) (by omega) (by omega)]
      simp only [Option.bind_some]
      rw [if_neg h0, pk_f h (q + 1) 8 k (by omega) (by omega) (by omega) (by omega) (by omega)]
      simp only [Option.bind_some]
      rw [if_neg h1, hr k (by omega)]
      rfl
theorem DC_in {a b : List S44} (h : TG a b = true) : DC a b = LI (cAt (PS a b)) (PS a b).length 0 := by
  unfold DC
  rw [if_pos h]
theorem DC_swap {a b : List S44} (h : TG a b = true) : DC b a = DC a b := by
  rw [DC_in h, DC_in (TG_swap h), PS_len_swap]
  exact LI_congr _ _ (fun j _ g => cAt_swap h j (by omega))
theorem DC_self {a : List S44} (h : PV a = true) : ((DC a a).length : Int) = Int.tdiv (sumB a + 2) 3 := by
  have h1 := TG_refl h
  have h2 := PS_len h1
  have h3 := (LI_len (cAt (PS a a)) (PS a a).length 0).2.2 (fun j _ g1 _ => cAt_self h j (by omega))
  rw [DC_in h1, Int.tdiv_eq_ediv_of_nonneg (by omega)]
  omega
theorem con_l0 (a b : List S44) (h : TG a b = true) (D : List Int) (hD : D = DC a b) : ∀ (d i k : Nat), i + d = D.length → d + 100 ≤ k → laws_FnConcords.l0 k a b D (i : Int) = some true := by
  have hl : D.length ≤ 8 := by rw [hD]; exact DC_len a b
  intro d
  induction d with
  | zero =>
    intro i k hi hk
    obtain ⟨k, rfl⟩ : ∃ m, k = m + 1 := ⟨k - 1, by omega⟩
    have hs := PV_sum (TG_0 h)
    have hs2 := sumB_bd a (PV_all (TG_0 h))
    simp only [laws_FnConcords.l0]
    rw [if_neg (by omega), dci_f b a k (by omega), Option.bind_some, DC_swap h, ← hD, sameI_f D k (by omega) (by omega), Option.bind_some, if_pos rfl, dci_f a a k (by omega), Option.bind_some, pbi_f a k (by omega), Option.bind_some]
    unfold PB
    have t1 : 0 ≤ Int.tdiv (sumB a + 2) 3 ∧ Int.tdiv (sumB a + 2) 3 ≤ 26 := by
      rw [Int.tdiv_eq_ediv_of_nonneg (by omega)]
      omega
    rw [if_pos (TG_0 h), w0 (i := sumB a + 2) (by omega) (by omega), w0 (by omega) (by omega), DC_self (TG_0 h)]
    simp
  | succ d ih =>
    intro i k hi hk
    obtain ⟨k, rfl⟩ : ∃ m, k = m + 1 := ⟨k - 1, by omega⟩
    have hx : i < D.length := by omega
    have hm : D[i] ∈ LI (cAt (PS a b)) (PS a b).length 0 := by
      rw [← DC_in h, ← hD]
      exact List.getElem_mem hx
    obtain ⟨j, e, _, h2, h3, h4⟩ := LI_mem _ _ _ hm
    have hj : j < (PS a b).length := by omega
    have e0 := expand_sum a (PV_all (TG_0 h))
    have e1 := expand_sum b (PV_all (TG_1 h))
    have e2 := TG_2 h
    have e3 := PS_len h
    have ha : j < (expand a).length := by omega
    have hb : j < (expand b).length := by omega
    have g0 : (expand a)[j] = (PS a b)[j].f0 := by simp [PS, pairs]
    have g1 : (expand b)[j] = (PS a b)[j].f1 := by simp [PS, pairs]
    have hp := PS_pv h _ (List.getElem_mem hj)
    rw [cAt_eq hj] at h4
    obtain ⟨s, s1, s2, s3, s4⟩ := cc_last hp.1 hp.2 h4
    have tm : Int.tmod (j : Int) 3 = 0 := by rw [Int.tmod_eq_emod_of_nonneg (by omega)]; omega
    simp only [laws_FnConcords.l0]
    rw [if_pos (by omega), if_pos (by omega), rd_at D i hx, e, pai_f a _ k (by omega), pai_f b _ k (by omega), PA_in' (TG_0 h) j ha, PA_in' (TG_1 h) j hb, g0, g1, Option.bind_some, Option.bind_some]
    dsimp only
    rw [s1 k (by omega), Option.bind_some, if_pos rfl, if_pos rfl, if_pos tm, w0 (i := (s.size : Int) - 1) (by omega) (by omega), if_pos (by omega), if_pos (by omega), if_pos s4, w1 (by omega)]
    exact ih (i + 1) k (by omega) (by omega)
theorem FnConcords : ∀ (l0 : List Int), l0.length ≤ maxLen → l0.length * 1 ≤ 140737488351232 → (∀ n ∈ l0, (Lit.int .u8 n).wf = true) → ∃ k, laws_FnConcords.f k l0 = some true := by
  intro l0 z1 z2 hw
  refine ⟨203, ?_⟩
  unfold laws_FnConcords.f
  by_cases h : (l0.length : Int) > 1048576
  · rw [if_pos h]
  · rw [if_neg h]
    obtain ⟨o, ho, hR⟩ := open_f l0 (bytes_of hw)
    obtain ⟨a, b, q, ha, hb, hq⟩ := disc_d o hR 0 (by omega) (by omega)
    have hd : spec_DrawDiscantConcords.f 203 l0 = some (a, b) := by
      unfold spec_DrawDiscantConcords.f
      rw [ho]
      simp only [Option.bind_some]
      rw [hq 203 (by omega)]
      rfl
    obtain ⟨D, hD⟩ : ∃ D, D = DC a b := ⟨_, rfl⟩
    have hDl : D.length ≤ 8 := by rw [hD]; exact DC_len a b
    rw [hd, Option.bind_some]
    dsimp only
    rw [dci_f a b 203 (by omega), Option.bind_some, dcs_f a b (by omega) (by omega) 203 (by omega), Option.bind_some, ← hD, sameI_f D 203 (by omega) (by omega), Option.bind_some, if_pos rfl, laws_FnConcords.j0]
    by_cases h0 : D.length = 0
    · rw [if_pos (by rw [h0]; rfl), sameI_f D 202 (by omega) (by omega), Option.bind_some]
    · rw [if_neg (by simp; exact fun e => h0 (by rw [e]; rfl))]
      have hT : TG a b = true := by
        by_cases hT : TG a b = true
        · exact hT
        · exact absurd (by rw [hD]; unfold DC; rw [if_neg hT]; rfl) h0
      exact con_l0 a b hT D hD D.length 0 202 (by omega) (by omega)

end Go.Proofs.YtcndojoghmblaaaDoor.PureFnConcords
