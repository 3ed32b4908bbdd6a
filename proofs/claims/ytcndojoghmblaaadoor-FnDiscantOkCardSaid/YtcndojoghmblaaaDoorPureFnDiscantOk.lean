/- FnDiscantOk: for every list of at most 1048576 bytes, the law of DiscantOk holds of what the reference draws from it, and the list reads as before (longer lists the statement lets pass). The tables letterHeights and leastSemis are tied to the program's text. No condition beyond the statement's own. -/
import Derived.Test.YtcndojoghmblaaaDoorGEx0
import Derived.Test.YtcndojoghmblaaaDoorGEx7
import Derived.Test.YtcndojoghmblaaaDoorGEx2
import Derived.Test.YtcndojoghmblaaaDoorGEx9
import Derived.Test.YtcndojoghmblaaaDoorGEx3
import Derived.Test.YtcndojoghmblaaaDoorGEx10
import Derived.Test.YtcndojoghmblaaaDoorGEx4
import Derived.Test.YtcndojoghmblaaaDoorGEx5
import Derived.Test.YtcndojoghmblaaaDoorGEx6
import Derived.Test.YtcndojoghmblaaaDoorGEx11
import Derived.Laws.Bits64
namespace Go.Proofs.YtcndojoghmblaaaDoor.PureFnDiscantOk
open Go.RowKit Go.Proofs.YtcndojoghmblaaaDoor.GE Go.Proofs.YtcndojoghmblaaaDoorW.PrintWords Go.Proofs.YtcndojoghmblaaaDoorW.PrintLast Go.Proofs.YtcndojoghmblaaaDoorW.PrintMore 
set_option linter.unusedVariables false
set_option linter.unusedSimpArgs false
theorem w1 {i : Nat} (h : i < 4611686018427387904) : wrap64 ((i : Int) + 1) = ((i + 1 : Nat) : Int) := by
  unfold wrap64
  omega
theorem w0 {i : Int} (h : -9223372036854775808 ≤ i) (h' : i ≤ 9223372036854775807) : wrap64 i = i := by
  unfold wrap64
  omega
theorem rd_at (xs : List Int) (i : Nat) (h : i < xs.length) : rd xs (i : Int) = xs[i] := by
  simp [rd, List.getD_eq_getElem?_getD, h]
/-- A tone of the gamut. -/
def tv (a : Int) (b : Bool) : Bool := decide (0 ≤ a) && (decide (a ≤ 20) && (!b || decide (Int.tmod a 7 = 2)))
theorem tv_spec (a : Int) (b : Bool) : spec_ToneValid.f a b = some (tv a b) := by
  unfold spec_ToneValid.f spec_l6In.f spec_l1Letter.f tv
  by_cases h0 : a ≥ 0
  · rw [if_pos h0, decide_eq_true (show 0 ≤ a from h0)]
    by_cases h1 : a ≤ 20
    · simp only [h1, decide_true, Option.bind_some, if_true, Bool.true_and]
      cases b
      · rfl
      · simp
        rfl
    · simp [h1]
  · rw [if_neg h0, decide_eq_false (show ¬ 0 ≤ a from h0)]
    rfl
theorem tv_impl (a : Int) (b : Bool) : impl_Tone_valid.f a b = some (tv a b) := by
  unfold impl_Tone_valid.f tv
  by_cases h0 : a ≥ 0
  · rw [if_pos h0, decide_eq_true (show 0 ≤ a from h0)]
    by_cases h1 : a ≤ 20
    · rw [if_pos h1, decide_eq_true h1]
      cases b
      · rfl
      · simp
        rfl
    · rw [if_neg h1, decide_eq_false h1]
      rfl
  · rw [if_neg h0, decide_eq_false (show ¬ 0 ≤ a from h0)]
    rfl
theorem in_spec (a b c : Int) : spec_l6In.f a b c = some (decide (b ≤ a) && decide (a ≤ c)) := by
  unfold spec_l6In.f
  by_cases h0 : a ≥ b
  · rw [if_pos h0, decide_eq_true (show b ≤ a from h0)]; rfl
  · rw [if_neg h0, decide_eq_false (show ¬ b ≤ a from h0)]; rfl
def vv (v : S44) : Bool := tv v.f0.f0 v.f0.f1 && (decide (1 ≤ v.f1) && decide (v.f1 ≤ 3))
theorem rdv_at (xs : List S44) (i : Nat) (h : i < xs.length) : rd_T44 xs (i : Int) = xs[i] := by
  simp [rd_T44, List.getD_eq_getElem?_getD, h]
def sumB (l : List S44) : Int := (l.map (·.f1)).sum
theorem sumB_cons (v : S44) (l : List S44) : sumB (v :: l) = v.f1 + sumB l := by simp [sumB]
theorem vv_bd {v : S44} (h : vv v = true) : 1 ≤ v.f1 ∧ v.f1 ≤ 3 := by
  unfold vv at h
  simp only [Bool.and_eq_true, decide_eq_true_eq] at h
  exact h.2
theorem sumB_bd (l : List S44) (h : l.all vv = true) : 0 ≤ sumB l ∧ sumB l ≤ 3 * l.length := by
  induction l with
  | nil => simp [sumB]
  | cons v l ih =>
    simp only [List.all_cons, Bool.and_eq_true] at h
    have h1 := vv_bd h.1
    have h2 := ih h.2
    rw [sumB_cons, List.length_cons]
    omega
def PV (l : List S44) : Bool := decide (l.length ≤ 12) && (l.all vv && decide (sumB l ≤ 24))
theorem PV_len {l : List S44} (h : PV l = true) : l.length ≤ 12 := by
  unfold PV at h
  simp only [Bool.and_eq_true, decide_eq_true_eq] at h
  exact h.1
theorem PV_all {l : List S44} (h : PV l = true) : l.all vv = true := by
  unfold PV at h
  simp only [Bool.and_eq_true, decide_eq_true_eq] at h
  exact h.2.1
theorem PV_sum {l : List S44} (h : PV l = true) : sumB l ≤ 24 := by
  unfold PV at h
  simp only [Bool.and_eq_true, decide_eq_true_eq] at h
  exact h.2.2
theorem beats_l0 (l : List S44) (hl : l.length ≤ 12) (hv : l.all vv = true) : ∀ (d i k : Nat) (a : Int), i + d = l.length → d < k → 0 ≤ a → a ≤ 3 * i → spec_l8Beats.l0 k l a (i : Int) = some (a + sumB (l.drop i)) := by
  intro d
  induction d with
  | zero =>
    intro i k a hi hk h0 h1
    obtain ⟨k, rfl⟩ : ∃ m, k = m + 1 := ⟨k - 1, by omega⟩
    simp only [spec_l8Beats.l0]
    rw [if_neg (by omega), List.drop_eq_nil_of_le (by omega)]
    simp [sumB]
  | succ d ih =>
    intro i k a hi hk h0 h1
    obtain ⟨k, rfl⟩ : ∃ m, k = m + 1 := ⟨k - 1, by omega⟩
    have hx : i < l.length := by omega
    have hb := vv_bd (List.all_eq_true.1 hv _ (List.getElem_mem hx))
    simp only [spec_l8Beats.l0]
    rw [if_pos (by omega), if_pos (by omega), rdv_at l i hx, w1 (by omega), w0 (by omega) (by omega), ih (i + 1) k _ (by omega) (by omega) (by omega) (by omega), List.drop_eq_getElem_cons hx, sumB_cons]
    congr 1
    omega
theorem beats_f (l : List S44) (hl : l.length ≤ 12) (hv : l.all vv = true) (k : Nat) (hk : 13 ≤ k) : spec_l8Beats.f k l = some (sumB l) := by
  unfold spec_l8Beats.f
  simpa using beats_l0 l hl hv l.length 0 k 0 (by omega) (by omega) (by omega) (by omega)
theorem pvs_l0 (l : List S44) (hb : l.length < 4611686018427387904) : ∀ (d i k : Nat), i + d = l.length → d + 14 < k → (l.take i).all vv = true → spec_PartValid.l0 k l (i : Int) = some (PV l) := by
  intro d
  induction d with
  | zero =>
    intro i k hi hk hv
    obtain ⟨k, rfl⟩ : ∃ m, k = m + 1 := ⟨k - 1, by omega⟩
    rw [List.take_of_length_le (by omega)] at hv
    simp only [spec_PartValid.l0]
    rw [if_neg (by omega)]
    unfold PV
    rw [hv]
    by_cases hl : l.length ≤ 12
    · rw [if_pos (by omega), beats_f l hl hv k (by omega), decide_eq_true hl]
      rfl
    · rw [if_neg (by omega), decide_eq_false hl]
      rfl
  | succ d ih =>
    intro i k hi hk hv
    obtain ⟨k, rfl⟩ : ∃ m, k = m + 1 := ⟨k - 1, by omega⟩
    have hx : i < l.length := by omega
    simp only [spec_PartValid.l0]
    rw [if_pos (by omega), if_pos (by omega), rdv_at l i hx, tv_spec, in_spec]
    simp only [Option.bind_some]
    by_cases hvi : vv l[i] = true
    · have hvi2 := hvi
      unfold vv at hvi2
      simp only [Bool.and_eq_true] at hvi2
      rw [if_pos hvi2.1, if_pos (by simpa using hvi2.2), w1 (by omega)]
      refine ih (i + 1) k (by omega) (by omega) ?_
      rw [List.take_succ_eq_append_getElem hx, List.all_append, hv]
      simp [hvi]
    · have hF : PV l = false := by
        have : l.all vv = false := by
          rw [Bool.eq_false_iff]
          intro h
          exact hvi (List.all_eq_true.1 h _ (List.getElem_mem hx))
        unfold PV
        rw [this]
        simp
      rw [hF]
      unfold vv at hvi
      by_cases h1 : tv l[i].f0.f0 l[i].f0.f1 = true
      · rw [if_pos h1]
        rw [h1, Bool.true_and] at hvi
        rw [if_neg hvi]
      · rw [if_neg h1]
theorem pvs_f (l : List S44) (hb : l.length ≤ 1048576) (k : Nat) (hk : l.length + 15 < k) : spec_PartValid.f k l = some (PV l) := by
  unfold spec_PartValid.f
  simpa using pvs_l0 l (by omega) l.length 0 k (by omega) (by omega) (by simp)
theorem pvi_l0 (l : List S44) (hl : l.length ≤ 12) : ∀ (d i k : Nat) (a : Int), i + d = l.length → d < k → 0 ≤ a → a ≤ 3 * i → impl_PartValid.l0 k a l (l.length : Int) (i : Int) = some ((l.drop i).all vv && decide (a + sumB (l.drop i) ≤ 24)) := by
  intro d
  induction d with
  | zero =>
    intro i k a hi hk h0 h1
    obtain ⟨k, rfl⟩ : ∃ m, k = m + 1 := ⟨k - 1, by omega⟩
    simp only [impl_PartValid.l0]
    rw [if_neg (by omega), List.drop_eq_nil_of_le (by omega)]
    simp [sumB]
  | succ d ih =>
    intro i k a hi hk h0 h1
    obtain ⟨k, rfl⟩ : ∃ m, k = m + 1 := ⟨k - 1, by omega⟩
    have hx : i < l.length := by omega
    simp only [impl_PartValid.l0]
    rw [if_pos (by omega), if_pos (by omega), if_pos (by omega), rdv_at l i hx, tv_impl, List.drop_eq_getElem_cons hx, sumB_cons, List.all_cons]
    simp only [Option.bind_some]
    by_cases ht : tv l[i].f0.f0 l[i].f0.f1 = true
    · rw [if_pos ht]
      by_cases h3 : l[i].f1 < 1
      · rw [if_pos h3]
        have : vv l[i] = false := by unfold vv; rw [decide_eq_false (show ¬ 1 ≤ l[i].f1 by omega)]; simp
        rw [this]
        rfl
      · rw [if_neg h3]
        by_cases h4 : l[i].f1 > 3
        · rw [if_pos h4]
          have : vv l[i] = false := by unfold vv; rw [decide_eq_false (show ¬ l[i].f1 ≤ 3 by omega)]; simp
          rw [this]
          rfl
        · have : vv l[i] = true := by unfold vv; rw [ht, decide_eq_true (show 1 ≤ l[i].f1 by omega), decide_eq_true (show l[i].f1 ≤ 3 by omega)]; rfl
          rw [if_neg h4, w1 (by omega), w0 (by omega) (by omega), ih (i + 1) k _ (by omega) (by omega) (by omega) (by omega), this, Bool.true_and, Int.add_assoc]
    · rw [if_neg ht]
      have : vv l[i] = false := by unfold vv; rw [Bool.eq_false_iff.mpr ht]; rfl
      rw [this]
      rfl
theorem pvi_f (l : List S44) (k : Nat) (hk : 13 ≤ k) : impl_PartValid.f k l = some (PV l) := by
  unfold impl_PartValid.f PV
  by_cases hl : l.length ≤ 12
  · rw [if_neg (by omega), decide_eq_true hl, Bool.true_and]
    simpa using pvi_l0 l hl l.length 0 k 0 (by omega) (by omega) (by omega) (by omega)
  · rw [if_pos (by omega), decide_eq_false hl]
    rfl

theorem expand_cons (v : S44) (l : List S44) : expand (v :: l) = List.replicate v.f1.toNat v.f0 ++ expand l := by simp [expand]
theorem expand_sum (l : List S44) (h : l.all vv = true) : ((expand l).length : Int) = sumB l := by
  induction l with
  | nil => rfl
  | cons v l ih =>
    simp only [List.all_cons, Bool.and_eq_true] at h
    have h1 := vv_bd h.1
    have h2 := ih h.2
    rw [expand_cons, sumB_cons, List.length_append, List.length_replicate]
    omega
theorem at_l0 (l : List S44) (hv : l.all vv = true) (hl : l.length ≤ 12) : ∀ (d i k : Nat) (b : Int), i + d = l.length → d ≤ k → 0 ≤ b → b < ((expand (l.drop i)).length : Int) → spec_l8At.l0 k l b (i : Int) = some (((expand (l.drop i)).getD b.toNat z30).f0, ((expand (l.drop i)).getD b.toNat z30).f1) := by
  intro d
  induction d with
  | zero =>
    intro i k b hi hk h0 h1
    rw [List.drop_eq_nil_of_le (by omega)] at h1
    simp [expand] at h1
    omega
  | succ d ih =>
    intro i k b hi hk h0 h1
    obtain ⟨k, rfl⟩ : ∃ m, k = m + 1 := ⟨k - 1, by omega⟩
    have hx : i < l.length := by omega
    have hb := vv_bd (List.all_eq_true.1 hv _ (List.getElem_mem hx))
    rw [List.drop_eq_getElem_cons hx, expand_cons] at h1 ⊢
    rw [List.length_append, List.length_replicate] at h1
    simp only [spec_l8At.l0]
    rw [if_pos (by omega), if_pos (by omega), rdv_at l i hx]
    by_cases hge : b ≥ l[i].f1
    · have hlen := expand_len (l.drop (i + 1)) (fun v hv' => (vv_bd (List.all_eq_true.1 hv v (List.mem_of_mem_drop hv'))).2)
      rw [List.length_drop] at hlen
      rw [if_pos hge, w1 (by omega), w0 (by omega) (by omega), ih (i + 1) k _ (by omega) (by omega) (by omega) (by omega)]
      rw [List.getD_eq_getElem?_getD, List.getD_eq_getElem?_getD, List.getElem?_append_right (by rw [List.length_replicate]; omega), List.length_replicate, show (b - l[i].f1).toNat = b.toNat - l[i].f1.toNat by omega]
    · rw [if_neg hge]
      rw [List.getD_eq_getElem?_getD, List.getElem?_append_left (by rw [List.length_replicate]; omega), List.getElem?_replicate, if_pos (by omega)]
      rfl
theorem at_f (l : List S44) (hv : l.all vv = true) (hl : l.length ≤ 12) (b : Int) (k : Nat) (hk : 12 ≤ k) (h0 : 0 ≤ b) (h1 : b < ((expand l).length : Int)) : spec_l8At.f k l b = some (((expand l).getD b.toNat z30).f0, ((expand l).getD b.toNat z30).f1) := by
  unfold spec_l8At.f
  simpa using at_l0 l hv hl l.length 0 k b (by omega) (by omega) h0 (by simpa using h1)
def PB (l : List S44) : Int := if PV l = true then sumB l else -1
theorem pbs_f (l : List S44) (hb : l.length ≤ 1048576) (k : Nat) (hk : l.length + 15 < k) : spec_PartBeats.f k l = some (PB l) := by
  unfold spec_PartBeats.f PB
  rw [pvs_f l hb k hk]
  simp only [Option.bind_some]
  by_cases h : PV l = true
  · rw [if_pos h, if_pos h, beats_f l (PV_len h) (PV_all h) k (by omega)]
    rfl
  · rw [if_neg h, if_neg h]
def TG (l0 l1 : List S44) : Bool := PV l0 && (PV l1 && decide (sumB l0 = sumB l1))
theorem TG_0 {l0 l1 : List S44} (h : TG l0 l1 = true) : PV l0 = true := by
  unfold TG at h
  simp only [Bool.and_eq_true] at h
  exact h.1
theorem TG_1 {l0 l1 : List S44} (h : TG l0 l1 = true) : PV l1 = true := by
  unfold TG at h
  simp only [Bool.and_eq_true] at h
  exact h.2.1
theorem TG_2 {l0 l1 : List S44} (h : TG l0 l1 = true) : sumB l0 = sumB l1 := by
  unfold TG at h
  simp only [Bool.and_eq_true, decide_eq_true_eq] at h
  exact h.2.2
def PS (l0 l1 : List S44) : List S85 := pairs (expand l0) (expand l1)
theorem so_f (l0 l1 : List S44) (k : Nat) (hk : 13 ≤ k) : impl_soundsOf.f k l0 l1 = some (if TG l0 l1 = true then (PS l0 l1, true) else ([], false)) := by
  unfold impl_soundsOf.f
  rw [pvi_f l0 k hk, pvi_f l1 k hk]
  simp only [Option.bind_some]
  congr 1
  by_cases h0 : PV l0 = true
  · by_cases h1 : PV l1 = true
    · have e0 := expand_sum l0 (PV_all h0)
      have e1 := expand_sum l1 (PV_all h1)
      by_cases h2 : sumB l0 = sumB l1
      · rw [if_pos ⟨h0, h1, by omega⟩, if_pos (by unfold TG; rw [h0, h1, decide_eq_true h2]; rfl)]
        rfl
      · rw [if_neg (fun z => h2 (by omega)), if_neg (by unfold TG; rw [h0, h1, decide_eq_false h2]; simp)]
    · rw [if_neg (fun z => h1 z.2.1), if_neg (fun z => h1 (TG_1 z))]
  · rw [if_neg (fun z => h0 z.1), if_neg (fun z => h0 (TG_0 z))]
theorem tg_f (l0 l1 : List S44) (hb0 : l0.length ≤ 1048576) (hb1 : l1.length ≤ 1048576) (k : Nat) (hk : l0.length + l1.length + 15 < k) : spec_DiscantTogether.f k l0 l1 = some (TG l0 l1) := by
  unfold spec_DiscantTogether.f
  rw [pbs_f l0 hb0 k (by omega), pbs_f l1 hb1 k (by omega)]
  simp only [Option.bind_some]
  unfold PB TG
  by_cases h0 : PV l0 = true
  · have b0 := (sumB_bd l0 (PV_all h0)).1
    rw [if_pos h0, if_pos (by omega), h0, Bool.true_and]
    by_cases h1 : PV l1 = true
    · rw [if_pos h1, h1, Bool.true_and]
      rfl
    · rw [if_neg h1, Bool.eq_false_iff.mpr h1, Bool.false_and]
      congr 1
      rw [beq_eq_false_iff_ne]
      omega
  · rw [if_neg h0, if_neg (by omega), Bool.eq_false_iff.mpr h0]
    rfl
theorem PS_len {l0 l1 : List S44} (h : TG l0 l1 = true) : ((PS l0 l1).length : Int) = sumB l0 := by
  have e0 := expand_sum l0 (PV_all (TG_0 h))
  have e1 := expand_sum l1 (PV_all (TG_1 h))
  have e2 := TG_2 h
  unfold PS pairs
  rw [List.length_zipWith]
  omega
theorem PS_bd {l0 l1 : List S44} (h : TG l0 l1 = true) : (PS l0 l1).length ≤ 24 := by
  have e0 := PS_len h
  have := PV_sum (TG_0 h)
  omega
theorem rdp_at (xs : List S85) (i : Nat) (h : i < xs.length) : rd_T85 xs (i : Int) = xs[i] := by
  simp [rd_T85, List.getD_eq_getElem?_getD, h]
theorem PS_at {l0 l1 : List S44} (h : TG l0 l1 = true) (b : Nat) (hb : b < (PS l0 l1).length) (k : Nat) (hk : 12 ≤ k) : spec_l8At.f k l0 (b : Int) = some ((PS l0 l1)[b].f0.f0, (PS l0 l1)[b].f0.f1) ∧ spec_l8At.f k l1 (b : Int) = some ((PS l0 l1)[b].f1.f0, (PS l0 l1)[b].f1.f1) := by
  have e0 := expand_sum l0 (PV_all (TG_0 h))
  have e1 := expand_sum l1 (PV_all (TG_1 h))
  have e2 := TG_2 h
  have e3 := PS_len h
  have h0 : b < (expand l0).length := by omega
  have h1 : b < (expand l1).length := by omega
  rw [at_f l0 (PV_all (TG_0 h)) (PV_len (TG_0 h)) b k hk (by omega) (by omega), at_f l1 (PV_all (TG_1 h)) (PV_len (TG_1 h)) b k hk (by omega) (by omega)]
  have g0 : (PS l0 l1)[b].f0 = (expand l0)[b] := by simp [PS, pairs]
  have g1 : (PS l0 l1)[b].f1 = (expand l1)[b] := by simp [PS, pairs]
  rw [g0, g1]
  simp [List.getD_eq_getElem?_getD, h0, h1]
theorem beats_tg {l0 l1 : List S44} (h : TG l0 l1 = true) (k : Nat) (hk : 13 ≤ k) : spec_l8Beats.f k l0 = some ((PS l0 l1).length : Int) := by
  rw [beats_f l0 (PV_len (TG_0 h)) (PV_all (TG_0 h)) k hk, PS_len h]
def CC (a : Int) (b : Bool) (c : Int) (d : Bool) : Bool := (spec_l8Concord.f 14 a b c d).getD false
theorem cc_fin : ∀ b d : Bool, ∀ n : Nat, n < 21 → ∀ m : Nat, m < 21 → (if (tv (n : Int) b && tv (m : Int) d) = true then decide (spec_l8Concord.f 14 (n : Int) b (m : Int) d = some (CC (n : Int) b (m : Int) d) ∧ impl_soundPair_concord.f 14 (n : Int) b (m : Int) d = some (CC (n : Int) b (m : Int) d)) else true) = true := by decide +kernel
theorem cc_both (a : Int) (b : Bool) (c : Int) (d : Bool) (h1 : tv a b = true) (h2 : tv c d = true) : spec_l8Concord.f 14 a b c d = some (CC a b c d) ∧ impl_soundPair_concord.f 14 a b c d = some (CC a b c d) := by
  have g1 := h1
  have g2 := h2
  unfold tv at g1 g2
  simp only [Bool.and_eq_true, decide_eq_true_eq] at g1 g2
  obtain ⟨n, rfl⟩ := Int.eq_ofNat_of_zero_le g1.1
  obtain ⟨m, rfl⟩ := Int.eq_ofNat_of_zero_le g2.1
  have := cc_fin b d n (by omega) m (by omega)
  rw [h1, h2, if_pos (by rfl)] at this
  exact of_decide_eq_true this
theorem cci_f (a : Int) (b : Bool) (c : Int) (d : Bool) (h1 : tv a b = true) (h2 : tv c d = true) (k : Nat) (hk : 14 ≤ k) : impl_soundPair_concord.f k a b c d = some (CC a b c d) :=
  at_rounds (impl_soundPair_concord.mono _ _ _ _) hk (cc_both a b c d h1 h2).2
theorem ccs_f (a : Int) (b : Bool) (c : Int) (d : Bool) (h1 : tv a b = true) (h2 : tv c d = true) (k : Nat) (hk : 14 ≤ k) : spec_l8Concord.f k a b c d = some (CC a b c d) :=
  at_rounds (spec_l8Concord.mono _ _ _ _) hk (cc_both a b c d h1 h2).1
/-- Both tones are valid. -/
def pv (p : S85) : Prop := tv p.f0.f0 p.f0.f1 = true ∧ tv p.f1.f0 p.f1.f1 = true
def cp (p : S85) : Bool := CC p.f0.f0 p.f0.f1 p.f1.f0 p.f1.f1
def pvs (ps : List S85) : Prop := ∀ p ∈ ps, pv p
theorem exp_tv {a : List S44} (h : PV a = true) : ∀ t ∈ expand a, tv t.f0 t.f1 = true := by
  intro t ht
  obtain ⟨v, hv, hr⟩ := List.mem_flatMap.1 (show t ∈ a.flatMap fun v => List.replicate v.f1.toNat v.f0 by simpa [expand] using ht)
  have e := List.eq_of_mem_replicate hr
  have hvv := List.all_eq_true.1 (PV_all h) v hv
  unfold vv at hvv
  rw [Bool.and_eq_true] at hvv
  rw [e]
  exact hvv.1
theorem pairs_mem {xs : List S30} : ∀ {ys : List S30} {p : S85}, p ∈ pairs xs ys → p.f0 ∈ xs ∧ p.f1 ∈ ys := by
  induction xs with
  | nil => intro ys p hp; simp [pairs] at hp
  | cons x xs ih =>
    intro ys p hp
    cases ys with
    | nil => simp [pairs] at hp
    | cons y ys =>
      have hp' : p = ⟨x, y⟩ ∨ p ∈ pairs xs ys := by simpa [pairs] using hp
      rcases hp' with rfl | hp'
      · exact ⟨List.mem_cons_self .., List.mem_cons_self ..⟩
      · have := ih hp'
        exact ⟨List.mem_cons_of_mem _ this.1, List.mem_cons_of_mem _ this.2⟩
theorem PS_pv {l0 l1 : List S44} (h : TG l0 l1 = true) : pvs (PS l0 l1) := fun p hp => by
  have := pairs_mem (show p ∈ pairs (expand l0) (expand l1) from hp)
  exact ⟨exp_tv (TG_0 h) _ this.1, exp_tv (TG_1 h) _ this.2⟩
def cAt (ps : List S85) (i : Nat) : Bool := (ps[i]?.map cp).getD false
theorem cAt_eq {ps : List S85} {i : Nat} (h : i < ps.length) : cAt ps i = cp ps[i] := by
  unfold cAt
  rw [List.getElem?_eq_getElem h]
  rfl
theorem ic_at {ps : List S85} (h : pvs ps) (i : Nat) (hi : i < ps.length) (k : Nat) (hk : 14 ≤ k) : impl_soundPair_concord.f k ps[i].f0.f0 ps[i].f0.f1 ps[i].f1.f0 ps[i].f1.f1 = some (cAt ps i) := by
  have := h ps[i] (List.getElem_mem hi)
  rw [cAt_eq hi]
  exact cci_f _ _ _ _ this.1 this.2 k hk
theorem sc_at {l0 l1 : List S44} (h : TG l0 l1 = true) (i : Nat) (hi : i < (PS l0 l1).length) (k : Nat) (hk : 14 ≤ k) : spec_l8Concord.f k (PS l0 l1)[i].f0.f0 (PS l0 l1)[i].f0.f1 (PS l0 l1)[i].f1.f0 (PS l0 l1)[i].f1.f1 = some (cAt (PS l0 l1) i) := by
  have := PS_pv h (PS l0 l1)[i] (List.getElem_mem hi)
  rw [cAt_eq hi]
  exact ccs_f _ _ _ _ this.1 this.2 k hk
/-- The strong beats from the i-th on, d beats long, that are concords. -/
def LI (c : Nat → Bool) : Nat → Nat → List Int
  | 0, _ => []
  | d + 1, i => (if i % 3 = 0 ∧ c i = true then [(i : Int)] else []) ++ LI c d (i + 1)
theorem LI_three (c : Nat → Bool) (n i : Nat) (h3 : i % 3 = 0) (hi : i < n) : LI c (n - i) i = (if c i = true then [(i : Int)] else []) ++ LI c (n - (i + 3)) (i + 3) := by
  have n1 : ¬ ((i + 1) % 3 = 0 ∧ c (i + 1) = true) := fun h => by omega
  have n2 : ¬ ((i + 1 + 1) % 3 = 0 ∧ c (i + 1 + 1) = true) := fun h => by omega
  have e0 : (if i % 3 = 0 ∧ c i = true then [(i : Int)] else []) = (if c i = true then [(i : Int)] else []) := by simp [h3]
  by_cases h1 : n - i = 1
  · rw [h1, show n - (i + 3) = 0 by omega]
    simp only [LI]
    rw [e0]
  · by_cases h2 : n - i = 2
    · rw [h2, show n - (i + 3) = 0 by omega]
      simp only [LI]
      rw [e0, if_neg n1]
      simp
    · obtain ⟨r, hr⟩ : ∃ r, n - i = r + 3 := ⟨n - i - 3, by omega⟩
      rw [hr, show n - (i + 3) = r by omega]
      simp only [LI]
      rw [e0, if_neg n1, if_neg n2]
      simp
theorem LI_len (c : Nat → Bool) : ∀ d i, (LI c d i).length ≤ (i + d + 2) / 3 - (i + 2) / 3 ∧ ((LI c d i).length = (i + d + 2) / 3 - (i + 2) / 3 ↔ ∀ j, i ≤ j → j < i + d → j % 3 = 0 → c j = true)
  | 0, i => by
    refine ⟨by simp [LI], ?_⟩
    constructor
    · intro _ j h1 h2
      omega
    · intro _
      simp [LI]
  | d + 1, i => by
    obtain ⟨h1, h2⟩ := LI_len c d (i + 1)
    have e : i + (d + 1) = i + 1 + d := by omega
    rw [e]
    by_cases h3 : i % 3 = 0
    · by_cases hc : c i = true
      · have el : (LI c (d + 1) i).length = 1 + (LI c d (i + 1)).length := by simp [LI, h3, hc, Nat.add_comm]
        rw [el]
        refine ⟨by omega, ?_⟩
        constructor
        · intro h j g1 g2 g3
          by_cases hj : j = i
          · rw [hj]; exact hc
          · exact (h2.1 (by omega)) j (by omega) g2 g3
        · intro h
          have := h2.2 (fun j g1 g2 g3 => h j (by omega) g2 g3)
          omega
      · have el : (LI c (d + 1) i).length = (LI c d (i + 1)).length := by simp [LI, hc]
        rw [el]
        refine ⟨by omega, ?_⟩
        constructor
        · intro h
          omega
        · intro h
          exact absurd (h i (Nat.le_refl _) (by omega) h3) hc
    · have el : (LI c (d + 1) i).length = (LI c d (i + 1)).length := by simp [LI, h3]
      rw [el]
      refine ⟨by omega, ?_⟩
      constructor
      · intro h j g1 g2 g3
        exact (h2.1 (by omega)) j (by omega) g2 g3
      · intro h
        have := h2.2 (fun j g1 g2 g3 => h j (by omega) g2 g3)
        omega
theorem conci_l0 (ps : List S85) (hv : pvs ps) (hn : ps.length ≤ 24) : ∀ (d i k : Nat) (acc : List Int), i + d = ps.length → acc.length ≤ i → d + 20 ≤ k → impl_DiscantConcords.l0 k acc ps (ps.length : Int) (i : Int) = some (acc ++ LI (cAt ps) d i) := by
  intro d
  induction d with
  | zero =>
    intro i k acc hi ha hk
    obtain ⟨k, rfl⟩ : ∃ m, k = m + 1 := ⟨k - 1, by omega⟩
    simp only [impl_DiscantConcords.l0]
    rw [if_neg (by omega)]
    simp [LI]
  | succ d ih =>
    intro i k acc hi ha hk
    obtain ⟨k, rfl⟩ : ∃ m, k = m + 1 := ⟨k - 1, by omega⟩
    have hx : i < ps.length := by omega
    have em : Int.tmod (i : Int) 3 = ((i % 3 : Nat) : Int) := by rw [Int.tmod_eq_emod_of_nonneg (by omega)]; omega
    simp only [impl_DiscantConcords.l0]
    rw [if_pos (by omega), if_pos (by omega), if_pos (by omega), em, rdp_at ps i hx, ic_at hv i hx k (by omega), Option.bind_some, w1 (by omega)]
    by_cases h3 : i % 3 = 0
    · rw [if_pos (by omega)]
      by_cases hc : cAt ps i = true
      · rw [if_pos hc, if_pos (by omega), ih (i + 1) k (acc ++ [(i : Int)]) (by omega) (by simp; omega) (by omega)]
        simp [LI, h3, hc]
      · rw [if_neg hc, ih (i + 1) k acc (by omega) (by omega) (by omega)]
        simp [LI, hc]
    · rw [if_neg (by omega), ih (i + 1) k acc (by omega) (by omega) (by omega)]
      simp [LI, h3]
theorem concs_l0 {l0 l1 : List S44} (h : TG l0 l1 = true) : ∀ (d i k : Nat) (acc : List Int), i % 3 = 0 → (PS l0 l1).length ≤ i + 3 * d → i ≤ 30 → acc.length ≤ i → d + 20 ≤ k → spec_DiscantConcords.l0 k l0 l1 acc (i : Int) = some (acc ++ LI (cAt (PS l0 l1)) ((PS l0 l1).length - i) i) := by
  have hn := PS_bd h
  have stop : ∀ (i k : Nat) (acc : List Int), ¬ i < (PS l0 l1).length → 20 ≤ k → spec_DiscantConcords.l0 k l0 l1 acc (i : Int) = some (acc ++ LI (cAt (PS l0 l1)) ((PS l0 l1).length - i) i) := by
    intro i k acc hi hk
    obtain ⟨k, rfl⟩ : ∃ m, k = m + 1 := ⟨k - 1, by omega⟩
    simp only [spec_DiscantConcords.l0]
    rw [beats_tg h k (by omega)]
    simp only [Option.bind_some]
    rw [if_neg (by omega), show (PS l0 l1).length - i = 0 by omega]
    simp [LI]
  intro d
  induction d with
  | zero =>
    intro i k acc h3 hi hi2 ha hk
    exact stop i k acc (by omega) (by omega)
  | succ d ih =>
    intro i k acc h3 hi hi2 ha hk
    by_cases hx : i < (PS l0 l1).length
    · obtain ⟨k, rfl⟩ : ∃ m, k = m + 1 := ⟨k - 1, by omega⟩
      obtain ⟨a0, a1⟩ := PS_at h i hx k (by omega)
      have e3 : wrap64 ((i : Int) + 3) = ((i + 3 : Nat) : Int) := by rw [w0 (by omega) (by omega)]; omega
      rw [LI_three _ _ i h3 hx]
      simp only [spec_DiscantConcords.l0]
      rw [beats_tg h k (by omega)]
      simp only [Option.bind_some]
      rw [if_pos (by omega), a0, a1]
      simp only [Option.bind_some]
      rw [sc_at h i hx k (by omega)]
      simp only [Option.bind_some]
      rw [e3]
      by_cases hc : cAt (PS l0 l1) i = true
      · rw [if_pos hc, if_pos (by omega), ih (i + 3) k (acc ++ [(i : Int)]) (by omega) (by omega) (by omega) (by simp; omega) (by omega), if_pos hc, List.append_assoc]
      · rw [if_neg hc, ih (i + 3) k acc (by omega) (by omega) (by omega) (by omega) (by omega), if_neg hc, List.nil_append]
    · exact stop i k acc hx (by omega)
def DC (l0 l1 : List S44) : List Int := if TG l0 l1 = true then LI (cAt (PS l0 l1)) (PS l0 l1).length 0 else []
theorem dci_f (l0 l1 : List S44) (k : Nat) (hk : 60 ≤ k) : impl_DiscantConcords.f k l0 l1 = some (DC l0 l1) := by
  unfold impl_DiscantConcords.f DC
  rw [so_f l0 l1 k (by omega)]
  simp only [Option.bind_some]
  by_cases h : TG l0 l1 = true
  · rw [if_pos h, if_pos h]
    have hn := PS_bd h
    simpa using conci_l0 (PS l0 l1) (PS_pv h) hn (PS l0 l1).length 0 k [] (by omega) (by simp) (by omega)
  · rw [if_neg h, if_neg h]
    simpa [LI] using conci_l0 ([] : List S85) (fun p hp => by cases hp) (by simp) 0 0 k [] rfl (by simp) (by omega)
theorem dcs_f (l0 l1 : List S44) (hb0 : l0.length ≤ 1048576) (hb1 : l1.length ≤ 1048576) (k : Nat) (hk : l0.length + l1.length + 60 < k) : spec_DiscantConcords.f k l0 l1 = some (DC l0 l1) := by
  unfold spec_DiscantConcords.f DC
  simp only [Option.bind_some]
  rw [tg_f l0 l1 hb0 hb1 k (by omega)]
  simp only [Option.bind_some]
  by_cases h : TG l0 l1 = true
  · rw [if_pos h, if_pos h]
    have hn := PS_bd h
    simpa using concs_l0 h 8 0 k [] rfl (by omega) (by omega) (by simp) (by omega)
  · rw [if_neg h, if_neg h]
theorem DC_len (l0 l1 : List S44) : (DC l0 l1).length ≤ 8 := by
  unfold DC
  by_cases h : TG l0 l1 = true
  · rw [if_pos h]
    have hn := PS_bd h
    have := (LI_len (cAt (PS l0 l1)) (PS l0 l1).length 0).1
    omega
  · rw [if_neg h]
    simp
def AI (c : Nat → Bool) (n : Nat) : Nat → Nat → Bool
  | 0, _ => true
  | d + 1, i => (if i % 3 = 0 ∨ i + 1 = n then c i else true) && AI c n d (i + 1)
theorem AI_iff (c : Nat → Bool) (n : Nat) : ∀ d i, AI c n d i = true ↔ ∀ j, i ≤ j → j < i + d → (j % 3 = 0 ∨ j + 1 = n) → c j = true
  | 0, i => by
    constructor
    · intro _ j h1 h2
      omega
    · intro _
      rfl
  | d + 1, i => by
    have ih := AI_iff c n d (i + 1)
    simp only [AI, Bool.and_eq_true, ih]
    constructor
    · intro ⟨h1, h2⟩ j g1 g2 g3
      by_cases hj : j = i
      · subst hj
        rw [if_pos g3] at h1
        exact h1
      · exact h2 j (by omega) (by omega) g3
    · intro h
      refine ⟨?_, fun j g1 g2 g3 => h j (by omega) (by omega) g3⟩
      by_cases hc : i % 3 = 0 ∨ i + 1 = n
      · rw [if_pos hc]
        exact h i (Nat.le_refl _) (by omega) hc
      · rw [if_neg hc]
theorem oki_l0 (ps : List S85) (hv : pvs ps) (hn : ps.length ≤ 24) : ∀ (d i k : Nat), i + d = ps.length → d + 20 ≤ k → impl_DiscantOk.l0 k ps ps (ps.length : Int) (i : Int) = some (AI (cAt ps) ps.length d i) := by
  intro d
  induction d with
  | zero =>
    intro i k hi hk
    obtain ⟨k, rfl⟩ : ∃ m, k = m + 1 := ⟨k - 1, by omega⟩
    simp only [impl_DiscantOk.l0]
    rw [if_neg (by omega)]
    rfl
  | succ d ih =>
    intro i k hi hk
    obtain ⟨k, rfl⟩ : ∃ m, k = m + 1 := ⟨k - 1, by omega⟩
    have hx : i < ps.length := by omega
    have em : Int.tmod (i : Int) 3 = ((i % 3 : Nat) : Int) := by rw [Int.tmod_eq_emod_of_nonneg (by omega)]; omega
    simp only [impl_DiscantOk.l0]
    rw [if_pos (by omega), if_pos (by omega), if_pos (by omega), em, rdp_at ps i hx, ic_at hv i hx k (by omega)]
    simp only [Option.bind_some]
    rw [w1 (by omega), w0 (i := (ps.length : Int) - 1) (by omega) (by omega), ih (i + 1) k (by omega) (by omega)]
    simp only [AI]
    by_cases h3 : i % 3 = 0
    · rw [if_pos (by omega), if_pos (Or.inl h3)]
      cases cAt ps i <;> rfl
    · rw [if_neg (by omega)]
      by_cases hl : i + 1 = ps.length
      · rw [if_pos (by omega), if_pos (Or.inr hl)]
        cases cAt ps i <;> rfl
      · rw [if_neg (by omega), if_neg (by omega), Bool.true_and]
def OK (l0 l1 : List S44) : Bool := TG l0 l1 && AI (cAt (PS l0 l1)) (PS l0 l1).length (PS l0 l1).length 0
theorem oki_f (l0 l1 : List S44) (k : Nat) (hk : 60 ≤ k) : impl_DiscantOk.f k l0 l1 = some (OK l0 l1) := by
  unfold impl_DiscantOk.f OK
  rw [so_f l0 l1 k (by omega)]
  simp only [Option.bind_some]
  by_cases h : TG l0 l1 = true
  · rw [if_pos h, if_pos rfl, h, Bool.true_and]
    have hn := PS_bd h
    simpa using oki_l0 (PS l0 l1) (PS_pv h) hn (PS l0 l1).length 0 k (by omega) (by omega)
  · rw [if_neg h, if_neg (by decide), Bool.eq_false_iff.mpr h, Bool.false_and]
theorem oks_f (l0 l1 : List S44) (hb0 : l0.length ≤ 1048576) (hb1 : l1.length ≤ 1048576) (k : Nat) (hk : l0.length + l1.length + 60 < k) : spec_DiscantOk.f k l0 l1 = some (OK l0 l1) := by
  unfold spec_DiscantOk.f OK
  rw [tg_f l0 l1 hb0 hb1 k (by omega)]
  rw [Option.bind_some]
  by_cases h : TG l0 l1 = true
  · have hn := PS_bd h
    rw [if_pos h, h, Bool.true_and, beats_tg h k (by omega)]
    rw [Option.bind_some]
    by_cases hz : (PS l0 l1).length = 0
    · rw [if_pos (by omega), hz]
      rfl
    · rw [if_neg (by omega), dcs_f l0 l1 hb0 hb1 k hk]
      rw [Option.bind_some]
      have eD : DC l0 l1 = LI (cAt (PS l0 l1)) (PS l0 l1).length 0 := by unfold DC; rw [if_pos h]
      have et : wrap64 (Int.tdiv (wrap64 (((PS l0 l1).length : Int) + 2)) 3) = ((((PS l0 l1).length + 2) / 3 : Nat) : Int) := by
        rw [w0 (i := ((PS l0 l1).length : Int) + 2) (by omega) (by omega), Int.tdiv_eq_ediv_of_nonneg (by omega), w0 (by omega) (by omega)]
        omega
      have e1 : wrap64 (((PS l0 l1).length : Int) - 1) = (((PS l0 l1).length - 1 : Nat) : Int) := by rw [w0 (by omega) (by omega)]; omega
      obtain ⟨q1, q2⟩ := LI_len (cAt (PS l0 l1)) (PS l0 l1).length 0
      have qa := AI_iff (cAt (PS l0 l1)) (PS l0 l1).length (PS l0 l1).length 0
      rw [eD, et, e1]
      have hx : (PS l0 l1).length - 1 < (PS l0 l1).length := by omega
      obtain ⟨a0, a1⟩ := PS_at h ((PS l0 l1).length - 1) hx k (by omega)
      by_cases hc : (LI (cAt (PS l0 l1)) (PS l0 l1).length 0).length = ((PS l0 l1).length + 2) / 3
      · rw [if_pos (by omega), a0, a1]
        simp only [Option.bind_some]
        rw [sc_at h _ hx k (by omega)]
        simp only [Option.bind_some]
        congr 1
        rw [Bool.eq_iff_iff, qa]
        have q3 := q2.1 (by omega)
        constructor
        · intro hl j g1 g2 g3
          rcases g3 with g3 | g3
          · exact q3 j g1 g2 g3
          · rw [show j = (PS l0 l1).length - 1 by omega]
            exact hl
        · intro ha
          exact ha ((PS l0 l1).length - 1) (by omega) (by omega) (Or.inr (by omega))
      · rw [if_neg (by omega)]
        congr 1
        symm
        rw [Bool.eq_false_iff]
        intro ha
        have hall := qa.1 ha
        have := q2.2 (fun j g1 g2 g3 => hall j g1 g2 (Or.inl g3))
        omega
  · rw [if_neg h, Bool.eq_false_iff.mpr h, Bool.false_and]
def swp (p : S85) : S85 := ⟨p.f1, p.f0⟩
theorem pairs_swap (xs : List S30) : ∀ ys : List S30, pairs ys xs = (pairs xs ys).map swp := by
  induction xs with
  | nil => intro ys; cases ys <;> rfl
  | cons x xs ih =>
    intro ys
    cases ys with
    | nil => rfl
    | cons y ys =>
      have := ih ys
      unfold pairs at this ⊢
      rw [List.zipWith_cons_cons, List.zipWith_cons_cons, this]
      rfl
theorem TG_swap {a b : List S44} (h : TG a b = true) : TG b a = true := by
  unfold TG
  rw [TG_0 h, TG_1 h, TG_2 h]
  simp
theorem TG_refl {a : List S44} (h : PV a = true) : TG a a = true := by
  unfold TG
  rw [h]
  simp
theorem cc_sym_fin : ∀ b d : Bool, ∀ n : Nat, n < 21 → ∀ m : Nat, m < 21 → (if (tv (n : Int) b && tv (m : Int) d) = true then decide (CC (m : Int) d (n : Int) b = CC (n : Int) b (m : Int) d) else true) = true := by decide +kernel
theorem cc_self_fin : ∀ b : Bool, ∀ n : Nat, n < 21 → (if tv (n : Int) b = true then CC (n : Int) b (n : Int) b else true) = true := by decide +kernel
theorem cc_up_fin : ∀ b d : Bool, ∀ n : Nat, n < 21 → ∀ m : Nat, m < 14 → (if (tv (n : Int) b && tv (m : Int) d) = true then decide (CC (n : Int) b ((m + 7 : Nat) : Int) d = CC (n : Int) b (m : Int) d) else true) = true := by decide +kernel
theorem tv_nat {a : Int} {b : Bool} (h : tv a b = true) : ∃ n : Nat, a = (n : Int) ∧ n < 21 := by
  unfold tv at h
  simp only [Bool.and_eq_true, decide_eq_true_eq] at h
  obtain ⟨n, rfl⟩ := Int.eq_ofNat_of_zero_le h.1
  exact ⟨n, rfl, by omega⟩
theorem cc_sym {a c : Int} {b d : Bool} (h1 : tv a b = true) (h2 : tv c d = true) : CC c d a b = CC a b c d := by
  obtain ⟨n, rfl, hn⟩ := tv_nat h1
  obtain ⟨m, rfl, hm⟩ := tv_nat h2
  have := cc_sym_fin b d n hn m hm
  rw [h1, h2, if_pos (by rfl)] at this
  exact of_decide_eq_true this
theorem cc_self {a : Int} {b : Bool} (h1 : tv a b = true) : CC a b a b = true := by
  obtain ⟨n, rfl, hn⟩ := tv_nat h1
  have := cc_self_fin b n hn
  rw [h1, if_pos rfl] at this
  exact this
theorem cc_up {a c : Int} {b d : Bool} (h1 : tv a b = true) (h2 : tv c d = true) (h3 : c + 7 ≤ 20) : CC a b (c + 7) d = CC a b c d := by
  obtain ⟨n, rfl, hn⟩ := tv_nat h1
  obtain ⟨m, rfl, hm⟩ := tv_nat h2
  have := cc_up_fin b d n hn m (by omega)
  rw [h1, h2, if_pos (by rfl)] at this
  exact of_decide_eq_true this
theorem cp_swap {p : S85} (h : pv p) : cp (swp p) = cp p := cc_sym h.1 h.2
theorem pv_swap {p : S85} (h : pv p) : pv (swp p) := ⟨h.2, h.1⟩
theorem cAt_swap {a b : List S44} (h : TG a b = true) (i : Nat) (hi : i < (PS a b).length) : cAt (PS b a) i = cAt (PS a b) i := by
  have e : PS b a = (PS a b).map swp := by unfold PS; rw [pairs_swap]
  have hi2 : i < (PS b a).length := by rw [e]; simpa using hi
  rw [cAt_eq hi, cAt_eq hi2]
  have e2 : (PS b a)[i] = swp (PS a b)[i] := by simp [e]
  rw [e2, cp_swap (PS_pv h _ (List.getElem_mem hi))]
theorem PS_len_swap (a b : List S44) : (PS b a).length = (PS a b).length := by
  unfold PS
  rw [pairs_swap]
  simp
theorem cAt_self {a : List S44} (h : PV a = true) (i : Nat) (hi : i < (PS a a).length) : cAt (PS a a) i = true := by
  have hp := PS_pv (TG_refl h) _ (List.getElem_mem hi)
  rw [cAt_eq hi]
  have e : (PS a a)[i].f1 = (PS a a)[i].f0 := by simp [PS, pairs]
  unfold cp
  rw [e]
  exact cc_self hp.1
def add1 (acc : List S44) (v : S44) : List S44 := acc ++ [(⟨(⟨v.f0.f0, v.f0.f1⟩ : S30), v.f1⟩ : S44)]
def lastV (acc : List S44) : S44 := rd_T44 acc ((acc.length - 1 : Nat) : Int)
/-- A voice joins the slower part. -/
def slowStep (acc : List S44) (v : S44) : List S44 :=
  if acc.length = 0 then add1 acc v
  else if ((lastV acc).f0.f0 == v.f0.f0 && ((lastV acc).f0.f1 == v.f0.f1)) = true then
    (if (lastV acc).f1 + v.f1 ≤ 3 then acc.set (acc.length - 1) (⟨(⟨(lastV acc).f0.f0, (lastV acc).f0.f1⟩ : S30), (lastV acc).f1 + v.f1⟩ : S44) else add1 acc v)
  else add1 acc v
def bts (l : List S44) : Prop := ∀ v ∈ l, 1 ≤ v.f1 ∧ v.f1 ≤ 3
theorem lastV_mem {acc : List S44} (h : ¬ acc.length = 0) : lastV acc ∈ acc := by
  unfold lastV
  rw [rdv_at acc (acc.length - 1) (by omega)]
  exact List.getElem_mem _
theorem slowStep_len (acc : List S44) (v : S44) : (slowStep acc v).length ≤ acc.length + 1 := by
  unfold slowStep add1
  (repeat' split) <;> simp
theorem slowStep_bts {acc : List S44} {v : S44} (h : bts acc) (hv : 1 ≤ v.f1 ∧ v.f1 ≤ 3) : bts (slowStep acc v) := by
  have ha : bts (add1 acc v) := by
    intro x hx
    unfold add1 at hx
    rcases List.mem_append.1 hx with hx | hx
    · exact h x hx
    · rw [List.mem_singleton.1 hx]
      exact hv
  unfold slowStep
  split
  · exact ha
  · rename_i hn
    split
    · split
      · rename_i h3
        intro x hx
        rcases List.mem_or_eq_of_mem_set hx with hx | rfl
        · exact h x hx
        · have := h _ (lastV_mem hn)
          exact ⟨by show 1 ≤ (lastV acc).f1 + v.f1; omega, h3⟩
      · exact ha
    · exact ha
theorem slowi_l0 (l : List S44) (hl : l.length ≤ 12) (hv : bts l) : ∀ (d i k : Nat) (acc : List S44), i + d = l.length → acc.length ≤ i → bts acc → d < k → impl_PartSlow.l0 k acc l (l.length : Int) (i : Int) = some ((l.drop i).foldl slowStep acc, true) := by
  intro d
  induction d with
  | zero =>
    intro i k acc hi ha hb hk
    obtain ⟨k, rfl⟩ : ∃ m, k = m + 1 := ⟨k - 1, by omega⟩
    simp only [impl_PartSlow.l0]
    rw [if_neg (by omega), List.drop_eq_nil_of_le (by omega)]
    rfl
  | succ d ih =>
    intro i k acc hi ha hb hk
    obtain ⟨k, rfl⟩ : ∃ m, k = m + 1 := ⟨k - 1, by omega⟩
    have hx : i < l.length := by omega
    have hvi := hv l[i] (List.getElem_mem hx)
    have hn := ih (i + 1) k (slowStep acc l[i]) (by omega) (by have := slowStep_len acc l[i]; omega) (slowStep_bts hb hvi) (by omega)
    rw [List.drop_eq_getElem_cons hx, List.foldl_cons, ← hn]
    simp only [impl_PartSlow.l0]
    rw [if_pos (by omega), if_pos (by omega), if_pos (by omega), rdv_at l i hx, w1 (by omega)]
    by_cases h0 : acc.length = 0
    · have e : wrap64 ((acc.length : Int) - 1) = -1 := by rw [w0 (by omega) (by omega)]; omega
      rw [e, if_neg (by omega), if_pos (by omega)]
      unfold slowStep
      rw [if_pos h0]
      rfl
    · have e : wrap64 ((acc.length : Int) - 1) = ((acc.length - 1 : Nat) : Int) := by rw [w0 (by omega) (by omega)]; omega
      have hL := hb _ (lastV_mem h0)
      rw [e, if_pos (by omega), if_pos (by omega), if_pos (by omega)]
      rw [show rd_T44 acc ((acc.length - 1 : Nat) : Int) = lastV acc from rfl, w0 (i := (lastV acc).f1 + l[i].f1) (by omega) (by omega)]
      unfold slowStep
      rw [if_neg h0]
      by_cases h1 : ((lastV acc).f0.f0 == l[i].f0.f0 && ((lastV acc).f0.f1 == l[i].f0.f1)) = true
      · rw [if_pos h1, if_pos h1]
        by_cases h2 : (lastV acc).f1 + l[i].f1 ≤ 3
        · rw [if_pos h2, if_pos h2, Int.toNat_natCast]
        · rw [if_neg h2, if_neg h2, if_pos (by omega)]
          rfl
      · rw [if_neg h1, if_neg h1, if_pos (by omega)]
        rfl
/-- The slower part. -/
def PSl (l : List S44) : List S44 × Bool := if PV l = true then (l.foldl slowStep [], true) else ([], false)
theorem PV_bts {l : List S44} (h : PV l = true) : bts l := fun v hv => vv_bd (List.all_eq_true.1 (PV_all h) v hv)
theorem sli_f (l : List S44) (k : Nat) (hk : 13 ≤ k) : impl_PartSlow.f k l = some (PSl l) := by
  unfold impl_PartSlow.f PSl
  rw [pvi_f l k hk, Option.bind_some]
  by_cases h : PV l = true
  · rw [if_pos h, if_pos h]
    have := PV_len h
    simpa using slowi_l0 l (PV_len h) (PV_bts h) l.length 0 k [] (by omega) (by simp) (by intro v hv; cases hv) (by omega)
  · rw [if_neg h, if_neg h]
theorem fold_len (l : List S44) : ∀ acc : List S44, (l.foldl slowStep acc).length ≤ acc.length + l.length := by
  induction l with
  | nil => intro acc; simp
  | cons v l ih =>
    intro acc
    have h1 := ih (slowStep acc v)
    have h2 := slowStep_len acc v
    simp only [List.foldl_cons, List.length_cons]
    omega
theorem PSl_len (l : List S44) : (PSl l).1.length ≤ 12 := by
  unfold PSl
  by_cases h : PV l = true
  · rw [if_pos h]
    have := fold_len l []
    have := PV_len h
    simp only [List.length_nil] at *
    omega
  · rw [if_neg h]
    simp
theorem acc_split {acc : List S44} (h : ¬ acc.length = 0) : ∃ init, acc = init ++ [lastV acc] ∧ acc.length - 1 = init.length := by
  have hne : acc ≠ [] := fun e => h (by rw [e]; rfl)
  refine ⟨acc.dropLast, ?_, by simp⟩
  have e : lastV acc = acc.getLast hne := by
    unfold lastV
    rw [rdv_at acc (acc.length - 1) (by omega), List.getLast_eq_getElem]
  rw [e]
  exact (List.dropLast_concat_getLast hne).symm
theorem expand_app (a b : List S44) : expand (a ++ b) = expand a ++ expand b := by simp [expand]
theorem expand_one (v : S44) : expand [v] = List.replicate v.f1.toNat v.f0 := by simp [expand]
theorem sumB_app (a b : List S44) : sumB (a ++ b) = sumB a + sumB b := by simp [sumB]
theorem sumB_one (v : S44) : sumB [v] = v.f1 := by simp [sumB]
theorem set_last (init : List S44) (u w : S44) : (init ++ [u]).set init.length w = init ++ [w] := by simp
structure Slow (acc : List S44) (s : Int) (e : List S30) : Prop where
  vv : acc.all vv = true
  sum : sumB acc = s
  exp : expand acc = e
  nm : ∀ (i : Nat) (h : i + 1 < acc.length), ¬ (acc[i].f0.f0 = acc[i + 1].f0.f0 ∧ acc[i].f0.f1 = acc[i + 1].f0.f1 ∧ acc[i].f1 + acc[i + 1].f1 ≤ 3)
theorem slow_add {acc : List S44} {s : Int} {e : List S30} (h : Slow acc s e) (v : S44) (hv : vv v = true)
    (hm : ¬ acc.length = 0 → ¬ ((lastV acc).f0.f0 = v.f0.f0 ∧ (lastV acc).f0.f1 = v.f0.f1 ∧ (lastV acc).f1 + v.f1 ≤ 3)) : Slow (add1 acc v) (s + v.f1) (e ++ List.replicate v.f1.toNat v.f0) := by
  unfold add1
  rw [show (⟨(⟨v.f0.f0, v.f0.f1⟩ : S30), v.f1⟩ : S44) = v from rfl]
  refine ⟨by rw [List.all_append, h.vv]; simp [hv], by rw [sumB_app, h.sum, sumB_one], by rw [expand_app, h.exp, expand_one], fun i hi => ?_⟩
  simp only [List.length_append, List.length_singleton] at hi
  by_cases hl : i + 1 < acc.length
  · rw [List.getElem_append_left (by omega), List.getElem_append_left hl]
    exact h.nm i hl
  · have e1 : i + 1 = acc.length := by omega
    have hn : ¬ acc.length = 0 := by omega
    have e2 : lastV acc = acc[i]'(by omega) := by
      unfold lastV
      rw [rdv_at acc (acc.length - 1) (by omega)]
      congr 1
      omega
    have := hm hn
    rw [e2] at this
    rw [List.getElem_append_left (by omega), List.getElem_append_right (by omega)]
    simpa [e1] using this
theorem slow_step {acc : List S44} {s : Int} {e : List S30} (h : Slow acc s e) (v : S44) (hv : vv v = true) : Slow (slowStep acc v) (s + v.f1) (e ++ List.replicate v.f1.toNat v.f0) := by
  have hvb := vv_bd hv
  unfold slowStep
  by_cases h0 : acc.length = 0
  · rw [if_pos h0]
    exact slow_add h v hv (fun hn => absurd h0 hn)
  · rw [if_neg h0]
    by_cases h1 : ((lastV acc).f0.f0 == v.f0.f0 && ((lastV acc).f0.f1 == v.f0.f1)) = true
    · rw [if_pos h1]
      simp only [Bool.and_eq_true, beq_iff_eq] at h1
      by_cases h2 : (lastV acc).f1 + v.f1 ≤ 3
      · rw [if_pos h2]
        have hu : vv (lastV acc) = true := List.all_eq_true.1 h.vv _ (lastV_mem h0)
        have hub := vv_bd hu
        obtain ⟨init, ei, en⟩ := acc_split h0
        have hv1 := h.vv
        have hs1 := h.sum
        have he1 := h.exp
        have hset0 : ∀ w : S44, acc.set (acc.length - 1) w = init ++ [w] := fun w => by
          rw [en]
          conv => lhs; rw [ei]
          rw [set_last]
        have hset : acc.set (acc.length - 1) (⟨(⟨(lastV acc).f0.f0, (lastV acc).f0.f1⟩ : S30), (lastV acc).f1 + v.f1⟩ : S44) = init ++ [(⟨(lastV acc).f0, (lastV acc).f1 + v.f1⟩ : S44)] := hset0 _
        have hvf : v.f0 = (lastV acc).f0 := by
          have e1 := h1.1
          have e2 := h1.2
          cases hx : v.f0 with
          | mk a b =>
            cases hy : (lastV acc).f0 with
            | mk c d =>
              rw [hx, hy] at e1 e2
              simp only at e1 e2
              rw [e1, e2]
        rw [ei] at hv1 hs1 he1
        rw [List.all_append, Bool.and_eq_true] at hv1
        rw [sumB_app, sumB_one] at hs1
        rw [expand_app, expand_one] at he1
        refine ⟨?_, ?_, ?_, ?_⟩
        · rw [hset, List.all_append, hv1.1]
          have : vv (⟨(lastV acc).f0, (lastV acc).f1 + v.f1⟩ : S44) = true := by
            unfold vv at hu ⊢
            simp only [Bool.and_eq_true, decide_eq_true_eq] at hu ⊢
            exact ⟨hu.1, by omega, h2⟩
          simp [this]
        · rw [hset, sumB_app, sumB_one]
          show sumB init + ((lastV acc).f1 + v.f1) = s + v.f1
          omega
        · rw [hset, expand_app, expand_one, ← he1, List.append_assoc, hvf, List.replicate_append_replicate]
          show expand init ++ List.replicate ((lastV acc).f1 + v.f1).toNat (lastV acc).f0 = _
          rw [show ((lastV acc).f1 + v.f1).toNat = (lastV acc).f1.toNat + v.f1.toNat by omega]
        · intro i hi
          simp only [List.length_set] at hi
          have hn := h.nm i hi
          by_cases hl : i + 1 = acc.length - 1
          · have e2 : lastV acc = acc[i + 1] := by
              unfold lastV
              rw [rdv_at acc (acc.length - 1) (by omega)]
              congr 1
              omega
            rw [List.getElem_set_ne (by omega), List.getElem_set]
            rw [if_pos (by omega)]
            show ¬ (acc[i].f0.f0 = (lastV acc).f0.f0 ∧ acc[i].f0.f1 = (lastV acc).f0.f1 ∧ acc[i].f1 + ((lastV acc).f1 + v.f1) ≤ 3)
            rw [e2] at hub ⊢
            intro hc
            exact hn ⟨hc.1, hc.2.1, by have := hc.2.2; omega⟩
          · rw [List.getElem_set_ne (by omega), List.getElem_set_ne (by omega)]
            exact hn
      · rw [if_neg h2]
        exact slow_add h v hv (fun _ hc => h2 hc.2.2)
    · rw [if_neg h1]
      refine slow_add h v hv (fun _ hc => h1 ?_)
      simp only [Bool.and_eq_true, beq_iff_eq]
      exact ⟨hc.1, hc.2.1⟩
theorem slow_fold (l : List S44) (hv : l.all vv = true) : ∀ (acc : List S44) (s : Int) (e : List S30), Slow acc s e → Slow (l.foldl slowStep acc) (s + sumB l) (e ++ expand l) := by
  induction l with
  | nil =>
    intro acc s e h
    have e1 : sumB ([] : List S44) = 0 := rfl
    have e2 : expand ([] : List S44) = [] := rfl
    rw [e1, e2, Int.add_zero, List.append_nil]
    exact h
  | cons v l ih =>
    intro acc s e h
    rw [List.all_cons, Bool.and_eq_true] at hv
    have := ih hv.2 _ _ _ (slow_step h v hv.1)
    rw [List.foldl_cons, sumB_cons, expand_cons, ← Int.add_assoc, ← List.append_assoc]
    exact this
theorem slow_all {l : List S44} (h : PV l = true) : PV (l.foldl slowStep []) = true ∧ Slow (l.foldl slowStep []) (sumB l) (expand l) := by
  have h0 : Slow [] 0 [] := ⟨rfl, rfl, rfl, fun i hi => absurd hi (by simp)⟩
  have hs := slow_fold l (PV_all h) [] 0 [] h0
  rw [Int.zero_add, List.nil_append] at hs
  refine ⟨?_, hs⟩
  have hl := fold_len l []
  have hl2 := PV_len h
  have hs2 := PV_sum h
  unfold PV
  rw [hs.vv, hs.sum, decide_eq_true (show (l.foldl slowStep []).length ≤ 12 by simp only [List.length_nil] at hl; omega), decide_eq_true hs2]
  rfl
theorem OK_TG {a b : List S44} (h : OK a b = true) : TG a b = true := by
  unfold OK at h
  rw [Bool.and_eq_true] at h
  exact h.1
theorem OK_at {a b : List S44} (h : OK a b = true) : ∀ j, j < (PS a b).length → (j % 3 = 0 ∨ j + 1 = (PS a b).length) → cAt (PS a b) j = true := by
  unfold OK at h
  rw [Bool.and_eq_true] at h
  intro j h1 h2
  exact (AI_iff _ _ _ _).1 h.2 j (Nat.zero_le _) (by omega) h2
theorem OK_of {a b : List S44} (hT : TG a b = true) (h : ∀ j, j < (PS a b).length → (j % 3 = 0 ∨ j + 1 = (PS a b).length) → cAt (PS a b) j = true) : OK a b = true := by
  unfold OK
  rw [hT, Bool.true_and, AI_iff]
  intro j _ h1 h2
  exact h j (by omega) h2
theorem OK_swap {a b : List S44} (h : OK a b = true) : OK b a = true := by
  have hT := OK_TG h
  refine OK_of (TG_swap hT) (fun j h1 h2 => ?_)
  rw [PS_len_swap] at h1 h2
  rw [cAt_swap hT j h1]
  exact OK_at h j h1 h2
theorem TG_slow {a b : List S44} (h : TG a b = true) : TG (a.foldl slowStep []) (b.foldl slowStep []) = true ∧ PS (a.foldl slowStep []) (b.foldl slowStep []) = PS a b := by
  obtain ⟨p0, s0⟩ := slow_all (TG_0 h)
  obtain ⟨p1, s1⟩ := slow_all (TG_1 h)
  constructor
  · unfold TG
    rw [p0, p1, s0.sum, s1.sum, TG_2 h]
    simp
  · unfold PS
    rw [s0.exp, s1.exp]
theorem OK_slow {a b : List S44} (h : OK a b = true) : OK (a.foldl slowStep []) (b.foldl slowStep []) = true := by
  obtain ⟨h1, h2⟩ := TG_slow (OK_TG h)
  refine OK_of h1 (fun j g1 g2 => ?_)
  rw [h2] at g1 g2 ⊢
  exact OK_at h j g1 g2
theorem OK_LI {a b : List S44} (h : OK a b = true) : (LI (cAt (PS a b)) (PS a b).length 0).length = ((PS a b).length + 2) / 3 := by
  have := (LI_len (cAt (PS a b)) (PS a b).length 0).2.2 (fun j _ g1 g2 => OK_at h j (by omega) (Or.inl g2))
  omega
def tvv (t : S30) : Bool := tv t.f0 t.f1
theorem rdt_at (xs : List S30) (i : Nat) (h : i < xs.length) : rd_T30 xs (i : Int) = xs[i] := by
  simp [rd_T30, List.getD_eq_getElem?_getD, h]
def MV (l : List S30) : Bool := decide (l.length ≤ 24) && l.all tvv
theorem mvi_l0 (l : List S30) (hb : l.length < 4611686018427387904) : ∀ (d i k : Nat), i + d = l.length → d < k → impl_MelodyValid.l0 k l (l.length : Int) (i : Int) = some ((l.drop i).all tvv) := by
  intro d
  induction d with
  | zero =>
    intro i k hi hk
    obtain ⟨k, rfl⟩ : ∃ m, k = m + 1 := ⟨k - 1, by omega⟩
    simp only [impl_MelodyValid.l0]
    rw [if_neg (by omega), List.drop_eq_nil_of_le (by omega)]
    rfl
  | succ d ih =>
    intro i k hi hk
    obtain ⟨k, rfl⟩ : ∃ m, k = m + 1 := ⟨k - 1, by omega⟩
    have hx : i < l.length := by omega
    simp only [impl_MelodyValid.l0]
    rw [if_pos (by omega), if_pos (by omega), if_pos (by omega), rdt_at l i hx, tv_impl, List.drop_eq_getElem_cons hx, List.all_cons]
    simp only [Option.bind_some]
    by_cases ht : tv l[i].f0 l[i].f1 = true
    · rw [if_pos ht, w1 (by omega), ih (i + 1) k (by omega) (by omega), show tvv l[i] = true from ht, Bool.true_and]
    · rw [if_neg ht, show tvv l[i] = false from Bool.eq_false_iff.mpr ht, Bool.false_and]
theorem mvi_f (l : List S30) (k : Nat) (hk : 25 ≤ k) : impl_MelodyValid.f k l = some (MV l) := by
  unfold impl_MelodyValid.f MV
  by_cases h : l.length ≤ 24
  · rw [if_neg (by omega), decide_eq_true h, Bool.true_and]
    simpa using mvi_l0 l (by omega) l.length 0 k (by omega) (by omega)
  · rw [if_pos (by omega), decide_eq_false h, Bool.false_and]

def mkv (t : S30) (b : Int) : S44 := ⟨⟨t.f0, t.f1⟩, b⟩
theorem tv_ok (a : Int) (b : Bool) : tv a b = toneOk a b := by
  unfold tv toneOk
  by_cases h : 0 ≤ a
  · rw [Int.tmod_eq_emod_of_nonneg h]
  · simp [h]
theorem MV_ok {l : List S30} (h : MV l = true) : ∀ t ∈ l, toneOk t.f0 t.f1 = true := by
  unfold MV at h
  simp only [Bool.and_eq_true, decide_eq_true_eq] at h
  intro t ht
  rw [← tv_ok]
  exact List.all_eq_true.1 h.2 t ht
def SM (l : List S30) (a : Int) : List S30 × Bool := if MV l = true then mvMove a l else ([], false)
theorem MV_len {l : List S30} (h : MV l = true) : l.length ≤ 24 := by
  unfold MV at h
  simp only [Bool.and_eq_true, decide_eq_true_eq] at h
  exact h.1
theorem mmi_f (l : List S30) (a : Int) (k : Nat) (hk : 25 ≤ k) : impl_MelodyMove.f k l a = some (SM l a) := by
  unfold impl_MelodyMove.f SM
  rw [mvi_f l k hk, Option.bind_some]
theorem mvd_ok {t x : S30} {a s : Int} (h : mvd t a s = some x) : toneOk x.f0 x.f1 = true ∧ x.f0 = t.f0 + a ∧ htI x.f0 x.f1 - htI t.f0 t.f1 = s := by
  unfold mvd mvOk at h
  split at h
  · rename_i h1
    rw [← Option.some.inj h]
    simp only [Bool.and_eq_true, decide_eq_true_eq] at h1
    exact ⟨h1.1, rfl, h1.2⟩
  · split at h
    · rename_i h1
      rw [← Option.some.inj h]
      simp only [Bool.and_eq_true, decide_eq_true_eq] at h1
      exact ⟨h1.1, rfl, h1.2⟩
    · exact absurd h (by simp)
theorem mvAll_at (a s : Int) : ∀ (l xs : List S30), mvAll a s l = some xs → ∀ (i : Nat) (h : i < l.length) (h' : i < xs.length), mvd l[i] a s = some xs[i]
  | [], xs, _, i, h, _ => by simp at h
  | t :: ts, xs, hx, i, h, h' => by
    simp only [mvAll] at hx
    obtain ⟨y, h1, hx⟩ := Option.bind_eq_some_iff.mp hx
    obtain ⟨ys, h2, hx⟩ := Option.bind_eq_some_iff.mp hx
    obtain rfl := Option.some.inj hx
    cases i with
    | zero => exact h1
    | succ i => exact mvAll_at a s ts ys h2 i (by simpa using h) (by simpa using h')
/-- A moved melody: as long as the melody, each tone moved by the same steps and semitones. -/
theorem mvMove_ok {a : Int} {l xs : List S30} (h : mvMove a l = (xs, true)) : xs.length = l.length ∧ ∃ s, ∀ (i : Nat) (h : i < l.length) (h' : i < xs.length), toneOk xs[i].f0 xs[i].f1 = true ∧ xs[i].f0 = l[i].f0 + a ∧ htI xs[i].f0 xs[i].f1 - htI l[i].f0 l[i].f1 = s := by
  have key : ∀ s, mvAll a s l = some xs → xs.length = l.length ∧ ∃ s, ∀ (i : Nat) (h : i < l.length) (h' : i < xs.length), toneOk xs[i].f0 xs[i].f1 = true ∧ xs[i].f0 = l[i].f0 + a ∧ htI xs[i].f0 xs[i].f1 - htI l[i].f0 l[i].f1 = s :=
    fun s hs => ⟨mvAll_len a s l xs hs, s, fun i h1 h2 => mvd_ok (mvAll_at a s l xs hs i h1 h2)⟩
  cases l with
  | nil =>
    have := (Prod.mk.inj (show (([] : List S30), true) = (xs, true) from h)).1
    subst this
    exact ⟨rfl, 0, fun i h1 _ => by simp at h1⟩
  | cons t ts =>
    unfold mvMove at h
    dsimp only at h
    split at h
    · split at h
      · rename_i ys hy
        have := (Prod.mk.inj h).1
        subst this
        unfold mvTry at hy
        split at hy
        · exact key _ hy
        · exact absurd hy (by simp)
      · split at h
        · rename_i ys hy
          have := (Prod.mk.inj h).1
          subst this
          unfold mvTry at hy
          split at hy
          · exact key _ hy
          · exact absurd hy (by simp)
        · exact absurd (Prod.mk.inj h).2 (by decide)
    · exact absurd (Prod.mk.inj h).2 (by decide)
def tones (l : List S44) : List S30 := l.map (·.f0)
def beatsOf (l : List S44) : List Int := l.map (·.f1)
def DMV (l : List S44) (a : Int) : List S44 × Bool := if PV l = true then (if (mvMove a (tones l)).2 = true then (List.zipWith mkv (mvMove a (tones l)).1 (beatsOf l), true) else ([], false)) else ([], false)
theorem tones_MV {l : List S44} (h : PV l = true) : MV (tones l) = true := by
  have h1 := PV_len h
  have h2 := PV_all h
  unfold MV tones
  rw [decide_eq_true (by simp; omega), Bool.true_and, List.all_map]
  rw [List.all_eq_true] at h2 ⊢
  intro v hv
  have := h2 v hv
  unfold vv at this
  rw [Bool.and_eq_true] at this
  exact this.1
theorem zip_beats (b : List Int) : ∀ (xs : List S30), xs.length = b.length → beatsOf (List.zipWith mkv xs b) = b := by
  induction b with
  | nil => intro xs h; cases xs with
    | nil => rfl
    | cons x xs => simp at h
  | cons y b ih => intro xs h; cases xs with
    | nil => simp at h
    | cons x xs =>
      have := ih xs (by simpa using h)
      unfold beatsOf at this ⊢
      rw [List.zipWith_cons_cons, List.map_cons, this]
      rfl
theorem zip_tones (xs : List S30) : ∀ (b : List Int), xs.length = b.length → tones (List.zipWith mkv xs b) = xs := by
  induction xs with
  | nil => intro b h; rfl
  | cons x xs ih => intro b h; cases b with
    | nil => simp at h
    | cons y b =>
      have := ih b (by simpa using h)
      unfold tones at this ⊢
      rw [List.zipWith_cons_cons, List.map_cons, this]
      rfl
theorem zip_PV {l : List S44} (h : PV l = true) {xs : List S30} (hn : xs.length = l.length) (hx : ∀ t ∈ xs, tv t.f0 t.f1 = true) : PV (List.zipWith mkv xs (beatsOf l)) = true := by
  have hlen : (beatsOf l).length = l.length := by simp [beatsOf]
  have hb := zip_beats (beatsOf l) xs (by omega)
  have ht := zip_tones xs (beatsOf l) (by omega)
  have hz : (List.zipWith mkv xs (beatsOf l)).length = l.length := by rw [List.length_zipWith]; omega
  have h1 := PV_len h
  have h2 := PV_all h
  have h3 := PV_sum h
  have hs : sumB (List.zipWith mkv xs (beatsOf l)) = sumB l := by
    unfold sumB
    unfold beatsOf at hb
    rw [beatsOf, hb]
  unfold PV
  rw [hz, hs, decide_eq_true h1, decide_eq_true h3, Bool.and_true, Bool.true_and, List.all_eq_true]
  intro v hv
  unfold vv
  rw [Bool.and_eq_true]
  constructor
  · refine hx v.f0 ?_
    rw [← ht]
    exact List.mem_map_of_mem hv
  · have hm : v.f1 ∈ beatsOf l := by
      rw [← hb]
      exact List.mem_map_of_mem hv
    obtain ⟨u, hu, e⟩ := List.mem_map.1 hm
    have := List.all_eq_true.1 h2 u hu
    unfold vv at this
    rw [Bool.and_eq_true, e] at this
    exact this.2
theorem moved_tones {a : Int} {l xs : List S30} (h : mvMove a l = (xs, true)) : ∀ t ∈ xs, tv t.f0 t.f1 = true := by
  obtain ⟨hn, s, hs⟩ := mvMove_ok h
  intro t ht
  obtain ⟨i, hi, e⟩ := List.mem_iff_getElem.1 ht
  rw [tv_ok, ← e]
  exact (hs i (by omega) hi).1
theorem moved_MV {a : Int} {l xs : List S30} (hl : l.length ≤ 24) (h : mvMove a l = (xs, true)) : MV xs = true := by
  have hn := (mvMove_ok h).1
  unfold MV
  rw [decide_eq_true (by omega), Bool.true_and, List.all_eq_true]
  exact moved_tones h
theorem dmi_l0 (l : List S44) (a : Int) (hl : l.length ≤ 12) : ∀ (d i k : Nat) (acc : List S30), i + d = l.length → acc.length ≤ i → d < k →
    impl_DiscantMove.l0 k l a acc l (l.length : Int) (i : Int) = (impl_MelodyMove.f (k - d - 1) (acc ++ tones (l.drop i)) a).bind fun bt => if bt.2 = true then impl_DiscantMove.l1 (k - d - 1) bt.1 [] l (l.length : Int) 0 else some ([], false) := by
  intro d
  induction d with
  | zero =>
    intro i k acc hi ha hk
    obtain ⟨k, rfl⟩ : ∃ m, k = m + 1 := ⟨k - 1, by omega⟩
    simp only [impl_DiscantMove.l0]
    rw [if_neg (by omega), List.drop_eq_nil_of_le (by omega)]
    simp [tones]
  | succ d ih =>
    intro i k acc hi ha hk
    obtain ⟨k, rfl⟩ : ∃ m, k = m + 1 := ⟨k - 1, by omega⟩
    have hx : i < l.length := by omega
    simp only [impl_DiscantMove.l0]
    rw [if_pos (by omega), if_pos (by omega), if_pos (by omega), if_pos (by omega), rdv_at l i hx, w1 (by omega), ih (i + 1) k _ (by omega) (by simp; omega) (by omega), List.drop_eq_getElem_cons hx]
    have e : acc ++ [(⟨l[i].f0.f0, l[i].f0.f1⟩ : S30)] ++ tones (l.drop (i + 1)) = acc ++ tones (l[i] :: l.drop (i + 1)) := by
      rw [List.append_assoc]
      rfl
    rw [e, show k + 1 - (d + 1) - 1 = k - d - 1 by omega]
theorem dmi_l1 (xs : List S30) (l : List S44) (hl : l.length ≤ 12) (hn : xs.length = l.length) : ∀ (d i k : Nat) (acc : List S44), i + d = l.length → acc.length ≤ i → d < k →
    impl_DiscantMove.l1 k xs acc l (l.length : Int) (i : Int) = some (acc ++ List.zipWith mkv (xs.drop i) (beatsOf (l.drop i)), true) := by
  intro d
  induction d with
  | zero =>
    intro i k acc hi ha hk
    obtain ⟨k, rfl⟩ : ∃ m, k = m + 1 := ⟨k - 1, by omega⟩
    simp only [impl_DiscantMove.l1]
    rw [if_neg (by omega), List.drop_eq_nil_of_le (by omega), List.zipWith_nil_left, List.append_nil]
  | succ d ih =>
    intro i k acc hi ha hk
    obtain ⟨k, rfl⟩ : ∃ m, k = m + 1 := ⟨k - 1, by omega⟩
    have hx : i < l.length := by omega
    have hy : i < xs.length := by omega
    simp only [impl_DiscantMove.l1]
    rw [if_pos (by omega), if_pos (by omega), if_pos (by omega), if_pos (by omega), if_pos (by omega), rdv_at l i hx, rdt_at xs i hy, w1 (by omega), ih (i + 1) k _ (by omega) (by simp; omega) (by omega), List.drop_eq_getElem_cons hx, List.drop_eq_getElem_cons hy]
    rw [List.append_assoc]
    rfl
theorem dmi_f (l : List S44) (a : Int) (k : Nat) (hk : 60 ≤ k) : impl_DiscantMove.f k l a = some (DMV l a) := by
  unfold impl_DiscantMove.f DMV
  rw [pvi_f l k (by omega), Option.bind_some]
  by_cases h : PV l = true
  · have hl := PV_len h
    have h0 := dmi_l0 l a hl l.length 0 k [] (by omega) (by simp) (by omega)
    rw [if_pos h, if_pos h]
    rw [show (([] : List S30) ++ tones (l.drop 0)) = tones l by simp] at h0
    rw [show ((0 : Nat) : Int) = 0 from rfl] at h0
    rw [h0, mmi_f (tones l) a _ (by omega), Option.bind_some]
    unfold SM
    rw [if_pos (tones_MV h)]
    obtain ⟨xs, b, hm⟩ : ∃ xs b, mvMove a (tones l) = (xs, b) := ⟨_, _, rfl⟩
    rw [hm]
    dsimp only
    cases b with
    | false => rw [if_neg (by decide), if_neg (by decide)]
    | true =>
      have hn : xs.length = l.length := by rw [(mvMove_ok hm).1]; simp [tones]
      rw [if_pos rfl, if_pos rfl]
      simpa using dmi_l1 xs l hl hn l.length 0 (k - l.length - 1) [] (by omega) (by simp) (by omega)
  · rw [if_neg h, if_neg h]
theorem exp_steps (a : Int) : ∀ (l : List S44) (xs : List S30), xs.map (·.f0) = (tones l).map (fun t => t.f0 + a) → (expand (List.zipWith mkv xs (beatsOf l))).map (·.f0) = ((expand l).map (·.f0)).map (· + a)
  | [], xs, h => by
    have : xs = [] := by simpa [tones] using h
    subst this
    rfl
  | v :: l, [], h => by simp [tones] at h
  | v :: l, x :: xs, h => by
    have h2 : x.f0 = v.f0.f0 + a ∧ xs.map (·.f0) = (tones l).map (fun t => t.f0 + a) := by simpa [tones] using h
    have ih := exp_steps a l xs h2.2
    have e : List.zipWith mkv (x :: xs) (beatsOf (v :: l)) = mkv x v.f1 :: List.zipWith mkv xs (beatsOf l) := rfl
    rw [e, expand_cons, expand_cons, List.map_append, List.map_append, List.map_append, ih]
    congr 1
    rw [List.map_replicate, List.map_replicate, List.map_replicate]
    show List.replicate v.f1.toNat x.f0 = _
    rw [h2.1]
theorem moved_steps {a : Int} {l xs : List S30} (h : mvMove a l = (xs, true)) : xs.map (·.f0) = l.map (fun t => t.f0 + a) := by
  obtain ⟨hn, s, hs⟩ := mvMove_ok h
  refine List.ext_getElem (by simp [hn]) (fun i h1 h2 => ?_)
  rw [List.getElem_map, List.getElem_map]
  exact (hs i (by simpa using h2) (by simpa using h1)).2.1
/-- A moved part: valid, with the same beats. -/
theorem DMV_ok {l up : List S44} {a : Int} (h : DMV l a = (up, true)) : PV l = true ∧ PV up = true ∧ sumB up = sumB l ∧ beatsOf up = beatsOf l ∧ ∃ xs, mvMove a (tones l) = (xs, true) ∧ xs.length = l.length ∧ up = List.zipWith mkv xs (beatsOf l) := by
  unfold DMV at h
  split at h
  · rename_i hP
    split at h
    · rename_i hM
      obtain ⟨xs, b, hm⟩ : ∃ xs b, mvMove a (tones l) = (xs, b) := ⟨_, _, rfl⟩
      rw [hm] at hM h
      have hb : b = true := hM
      subst hb
      have hn : xs.length = l.length := by rw [(mvMove_ok hm).1]; simp [tones]
      have hz := zip_beats (beatsOf l) xs (by simp [beatsOf, hn])
      have hu := (Prod.mk.inj h).1
      refine ⟨hP, ?_, ?_, ?_, xs, hm, hn, hu.symm⟩
      · rw [← hu]
        exact zip_PV hP hn (moved_tones hm)
      · rw [← hu]
        unfold sumB
        have : (List.zipWith mkv xs (beatsOf l)).map (·.f1) = l.map (·.f1) := hz
        rw [this]
      · rw [← hu]
        exact hz
    · exact absurd (Prod.mk.inj h).2 (by decide)
  · exact absurd (Prod.mk.inj h).2 (by decide)
theorem exp_soft : ∀ (l : List S44) (xs : List S30), xs.map (·.f1) = (tones l).map (·.f1) → (expand (List.zipWith mkv xs (beatsOf l))).map (·.f1) = (expand l).map (·.f1)
  | [], xs, h => by
    have : xs = [] := by simpa [tones] using h
    subst this
    rfl
  | v :: l, [], h => by simp [tones] at h
  | v :: l, x :: xs, h => by
    have h2 : x.f1 = v.f0.f1 ∧ xs.map (·.f1) = (tones l).map (·.f1) := by simpa [tones] using h
    have ih := exp_soft l xs h2.2
    have e : List.zipWith mkv (x :: xs) (beatsOf (v :: l)) = mkv x v.f1 :: List.zipWith mkv xs (beatsOf l) := rfl
    rw [e, expand_cons, expand_cons, List.map_append, List.map_append, ih]
    congr 1
    rw [List.map_replicate, List.map_replicate]
    show List.replicate v.f1.toNat x.f1 = _
    rw [h2.1]
theorem OK_up {a b up : List S44} (h : OK a b = true) (hd : DMV b 7 = (up, true)) (hs : up.map (·.f0.f1) = b.map (·.f0.f1)) : OK a up = true := by
  have hT := OK_TG h
  obtain ⟨h1, h2, h3, h4, xs, h5, h6, h7⟩ := DMV_ok hd
  have hU : TG a up = true := by
    unfold TG
    rw [TG_0 hT, h2, h3, TG_2 hT]
    simp
  have ex : xs.map (·.f1) = (tones b).map (·.f1) := by
    have := zip_tones xs (beatsOf b) (by simp [beatsOf, h6])
    rw [← h7] at this
    rw [← this]
    unfold tones
    rw [List.map_map, List.map_map]
    exact hs
  have es := exp_steps 7 b xs (moved_steps h5)
  have ef := exp_soft b xs ex
  rw [← h7] at es ef
  have el : (expand up).length = (expand b).length := by
    have := congrArg List.length es
    simpa using this
  have hl : (PS a up).length = (PS a b).length := by
    unfold PS pairs
    rw [List.length_zipWith, List.length_zipWith, el]
  refine OK_of hU (fun j g1 g2 => ?_)
  rw [hl] at g1 g2
  have hc := OK_at h j g1 g2
  have g1' : j < (PS a up).length := by omega
  rw [cAt_eq g1] at hc
  rw [cAt_eq g1']
  have hb : j < (expand b).length := by
    unfold PS pairs at g1
    rw [List.length_zipWith] at g1
    omega
  have hu : j < (expand up).length := by omega
  have e0 : (PS a up)[j].f0 = (PS a b)[j].f0 := by simp [PS, pairs]
  have e1 : (PS a up)[j].f1 = (expand up)[j] := by simp [PS, pairs]
  have e2 : (PS a b)[j].f1 = (expand b)[j] := by simp [PS, pairs]
  have e3 : (expand up)[j].f0 = (expand b)[j].f0 + 7 := by
    have q1 : ((expand up).map (·.f0))[j]? = (((expand b).map (·.f0)).map (· + 7))[j]? := by rw [es]
    simp only [List.getElem?_map, List.getElem?_eq_getElem hu, List.getElem?_eq_getElem hb, Option.map_some] at q1
    exact Option.some.inj q1
  have e4 : (expand up)[j].f1 = (expand b)[j].f1 := by
    have q1 : ((expand up).map (·.f1))[j]? = ((expand b).map (·.f1))[j]? := by rw [ef]
    simp only [List.getElem?_map, List.getElem?_eq_getElem hu, List.getElem?_eq_getElem hb, Option.map_some] at q1
    exact Option.some.inj q1
  have p1 := PS_pv hT _ (List.getElem_mem g1)
  have p2 := PS_pv hU _ (List.getElem_mem g1')
  have b2 := tv_nat p2.2
  obtain ⟨n, hn, hn2⟩ := b2
  unfold cp at hc ⊢
  rw [e0, e1, e3, e4, ← e2]
  rw [e1, e3, ← e2] at hn
  rw [cc_up p1.1 p1.2 (by omega)]
  exact hc
theorem pbi_f (l : List S44) (k : Nat) (hk : 13 ≤ k) : impl_PartBeats.f k l = some (PB l) := by
  unfold impl_PartBeats.f PB
  rw [pvi_f l k hk]
  simp only [Option.bind_some]
  by_cases h : PV l = true
  · rw [if_pos h, if_pos h, expand_sum l (PV_all h)]
  · rw [if_neg h, if_neg h]
theorem xor_nn (a b : Int) (ha : 0 ≤ a) (ha' : a < 4611686018427387904) (hb : 0 ≤ b) (hb' : b < 4611686018427387904) : 0 ≤ Go.bits .xor .i64 a b := by
  obtain ⟨x, rfl⟩ := Int.eq_ofNat_of_zero_le ha
  obtain ⟨y, rfl⟩ := Int.eq_ofNat_of_zero_le hb
  have hx : x ^^^ y < 2 ^ 62 := Nat.xor_lt_two_pow (by omega) (by omega)
  have h1 : (BitVec.ofInt 64 (x : Int)).toNat = x := by
    rw [BitVec.ofInt_natCast, BitVec.toNat_ofNat]; exact Nat.mod_eq_of_lt (by omega)
  have h2 : (BitVec.ofInt 64 (y : Int)).toNat = y := by
    rw [BitVec.ofInt_natCast, BitVec.toNat_ofNat]; exact Nat.mod_eq_of_lt (by omega)
  have e : Go.bits .xor .i64 (x : Int) (y : Int) = IntKind.i64.wrap (((x ^^^ y : Nat)) : Int) := by
    show IntKind.i64.wrap ((BitVec.ofInt 64 (x : Int) ^^^ BitVec.ofInt 64 (y : Int)).toNat : Int) = _
    rw [BitVec.toNat_xor, h1, h2]
  rw [e, IntWalk.i64_in _ (by omega)]
  omega
/-- A list of bytes. -/
def Bytes (l : List Int) : Prop := ∀ n ∈ l, 0 ≤ n ∧ n ≤ 255
theorem rd_byte {l : List Int} (h : Bytes l) (i : Int) (h0 : 0 ≤ i) (h1 : i < (l.length : Int)) : 0 ≤ rd l i ∧ rd l i ≤ 255 := by
  obtain ⟨n, rfl⟩ := Int.eq_ofNat_of_zero_le h0
  have hn : n < l.length := by omega
  rw [rd_at l n hn]
  exact h _ (List.getElem_mem hn)
theorem tm_bd (a n : Int) (ha : 0 ≤ a) (hn : 0 < n) : 0 ≤ Int.tmod a n ∧ Int.tmod a n < n := by
  rw [Int.tmod_eq_emod_of_nonneg ha]
  exact ⟨Int.emod_nonneg _ (by omega), Int.emod_lt_of_pos _ hn⟩
theorem td_bd (a n : Int) (ha : 0 ≤ a) (hn : 0 < n) : 0 ≤ Int.tdiv a n ∧ Int.tdiv a n ≤ a := by
  rw [Int.tdiv_eq_ediv_of_nonneg ha]
  exact ⟨Int.ediv_nonneg ha (by omega), Int.ediv_le_self _ ha⟩
theorem pick_some (l : List Int) (hl : Bytes l) (hn : l.length ≤ 2000) (p n : Int) (hp : 0 ≤ p) (hp' : p ≤ 1000000) (h1 : 1 ≤ n) (h2 : n ≤ 1000000) :
    ∃ v, 0 ≤ v ∧ v < n ∧ ∀ k, spec_l6Rd_pick.f (k + 1) l p n = some (v, p + 1) := by
  unfold spec_l6Rd_pick.f
  simp only [spec_l6Rd_pick.j0]
  rw [if_neg (show ¬ n < 1 by omega), w0 (i := p + 1) (by omega) (by omega), show p + 1 - 1 = p by omega, w0 (i := p) (by omega) (by omega)]
  by_cases hl0 : l.length = 0
  · refine ⟨0, by omega, by omega, fun k => ?_⟩
    rw [if_pos (show ((l.length : Int) == 0) = true by rw [hl0]; rfl)]
  · rw [if_neg (show ¬ (((l.length : Int) == 0) = true) from fun h => hl0 (by have := beq_iff_eq.1 h; omega))]
    have hlp : (0 : Int) < (l.length : Int) := by omega
    by_cases hpl : p < (l.length : Int)
    · obtain ⟨b0, b1⟩ := rd_byte hl p hp hpl
      rw [if_pos hpl, if_pos hp, if_neg (show ¬ n = 0 by omega), w0 (i := rd l p) (by omega) (by omega)]
      obtain ⟨t0, t1⟩ := tm_bd (rd l p) n b0 (by omega)
      exact ⟨_, t0, t1, fun _ => rfl⟩
    · rw [if_neg hpl, if_neg (show ¬ (l.length : Int) = 0 by omega), w0 (i := p * 7) (by omega) (by omega), w0 (i := p * 7 + 3) (by omega) (by omega)]
      obtain ⟨i0, i1⟩ := tm_bd p (l.length : Int) hp hlp
      obtain ⟨j0, j1⟩ := tm_bd (p * 7 + 3) (l.length : Int) (by omega) hlp
      obtain ⟨q0, q1⟩ := td_bd p (l.length : Int) hp hlp
      rw [if_pos i0, if_pos i1, if_pos j0, if_pos j1, if_neg (show ¬ n = 0 by omega)]
      obtain ⟨a0, a1⟩ := rd_byte hl _ i0 i1
      obtain ⟨b0, b1⟩ := rd_byte hl _ j0 j1
      generalize rd l (Int.tmod p (l.length : Int)) = a at a0 a1 ⊢
      generalize rd l (Int.tmod (p * 7 + 3) (l.length : Int)) = b at b0 b1 ⊢
      generalize Int.tdiv p (l.length : Int) = q at q0 q1 ⊢
      simp (disch := omega) only [w0]
      have x0 : 0 ≤ a * 131 + b * 1117 + p * 29 + q * 53 := by omega
      obtain ⟨d0, d1⟩ := td_bd (a * 131 + b * 1117 + p * 29 + q * 53) 64 x0 (by omega)
      rw [w0 (i := Int.tdiv (a * 131 + b * 1117 + p * 29 + q * 53) 64) (by omega) (by omega)]
      obtain ⟨t0, t1⟩ := tm_bd (Go.bits .xor .i64 (a * 131 + b * 1117 + p * 29 + q * 53) (Int.tdiv (a * 131 + b * 1117 + p * 29 + q * 53) 64)) n (xor_nn _ _ x0 (by omega) d0 (by omega)) (by omega)
      exact ⟨_, t0, t1, fun _ => rfl⟩
/-- What a reader's pick answers. -/
def pk (l : List Int) (p n : Int) : Int := ((spec_l6Rd_pick.f 1 l p n).getD (0, 0)).1
structure Rdr (l : List Int) : Prop where
  bytes : Bytes l
  len : l.length ≤ 2000
theorem pk_f {l : List Int} (h : Rdr l) (p n : Int) (k : Nat) (hp : 0 ≤ p) (hp' : p ≤ 1000000) (h1 : 1 ≤ n) (h2 : n ≤ 1000000) (hk : 1 ≤ k) : spec_l6Rd_pick.f k l p n = some (pk l p n, p + 1) := by
  obtain ⟨v, _, _, hv⟩ := pick_some l h.bytes h.len p n hp hp' h1 h2
  unfold pk
  rw [hv 0]
  obtain ⟨k, rfl⟩ : ∃ m, k = m + 1 := ⟨k - 1, by omega⟩
  rw [hv k]
  rfl
theorem pk_bd {l : List Int} (h : Rdr l) (p n : Int) (hp : 0 ≤ p) (hp' : p ≤ 1000000) (h1 : 1 ≤ n) (h2 : n ≤ 1000000) : 0 ≤ pk l p n ∧ pk l p n < n := by
  obtain ⟨v, h3, h4, hv⟩ := pick_some l h.bytes h.len p n hp hp' h1 h2
  unfold pk
  rw [hv 0]
  exact ⟨h3, h4⟩
theorem open_f (l : List Int) (hl : Bytes l) : ∃ s, spec_l6Open.f l = some (s, 0) ∧ Rdr s := by
  unfold spec_l6Open.f
  by_cases h : (l.length : Int) > 2000
  · rw [if_pos h, if_pos (by omega)]
    exact ⟨_, rfl, ⟨fun n hn => hl n (List.mem_of_mem_take hn), by simp; omega⟩⟩
  · rw [if_neg h]
    exact ⟨_, rfl, ⟨hl, by omega⟩⟩
theorem bytes_of {l : List Int} (h : ∀ n ∈ l, (Lit.int .u8 n).wf = true) : Bytes l := fun n hn => by
  have := h n hn
  simp [Lit.wf, IntKind.min, IntKind.max, IntKind.signed, IntKind.bits] at this
  omega
theorem letter_f (a : Int) : spec_l1Letter.f a = some (Int.tmod a 7) := rfl
theorem clamp_bd (a b x : Int) (h : a ≤ b) : a ≤ mx a (mn b x) ∧ mx a (mn b x) ≤ b := by
  unfold mx mn
  constructor <;> (repeat' split) <;> omega
theorem part_end (l : List Int) (h : Rdr l) (acc : List S44) (x1 x6 p : Int) (ha : acc.length ≤ 12) (hp : 0 ≤ p) (hp' : p ≤ 100000) :
    ∃ out q, out.length ≤ 12 ∧ p ≤ q ∧ q ≤ p + 2 ∧ ∀ k, 2 ≤ k → spec_l92Part.j1 k x1 acc x6 false l p = some (out, q) := by
  by_cases h0 : acc.length = 0
  · refine ⟨acc, p, ha, by omega, by omega, fun k hk => ?_⟩
    obtain ⟨k, rfl⟩ : ∃ m, k = m + 1 := ⟨k - 1, by omega⟩
    rw [spec_l92Part.j1, if_neg (by decide), if_neg (by omega)]
  · by_cases h1 : pk l p 50 = 0
    · obtain ⟨v0, v1⟩ := pk_bd h (p + 1) 2 (by omega) (by omega) (by omega) (by omega)
      refine ⟨acc.set (0 : Int).toNat ⟨⟨(rd_T44 acc 0).f0.f0, (rd_T44 acc 0).f0.f1⟩, rd ([0, 4] : List Int) (pk l (p + 1) 2)⟩, p + 1 + 1, by simp; omega, by omega, by omega, fun k hk => ?_⟩
      obtain ⟨k, rfl⟩ : ∃ m, k = m + 1 := ⟨k - 1, by omega⟩
      rw [spec_l92Part.j1, if_neg (by decide), if_pos (by omega), pk_f h p 50 k (by omega) (by omega) (by omega) (by omega) (by omega)]
      simp only [Option.bind_some]
      rw [if_pos h1, pk_f h (p + 1) 2 k (by omega) (by omega) (by omega) (by omega) (by omega)]
      simp only [Option.bind_some]
      rw [if_pos v0, if_pos (by simpa using v1), if_pos (by omega)]
    · by_cases h2 : pk l p 50 = 1
      · refine ⟨acc.set (0 : Int).toNat ⟨⟨21, (rd_T44 acc 0).f0.f1⟩, (rd_T44 acc 0).f1⟩, p + 1, by simp; omega, by omega, by omega, fun k hk => ?_⟩
        obtain ⟨k, rfl⟩ : ∃ m, k = m + 1 := ⟨k - 1, by omega⟩
        rw [spec_l92Part.j1, if_neg (by decide), if_pos (by omega), pk_f h p 50 k (by omega) (by omega) (by omega) (by omega) (by omega)]
        simp only [Option.bind_some]
        rw [if_neg h1, if_pos h2, if_pos (by omega)]
      · refine ⟨acc, p + 1, ha, by omega, by omega, fun k hk => ?_⟩
        obtain ⟨k, rfl⟩ : ∃ m, k = m + 1 := ⟨k - 1, by omega⟩
        rw [spec_l92Part.j1, if_neg (by decide), if_pos (by omega), pk_f h p 50 k (by omega) (by omega) (by omega) (by omega) (by omega)]
        simp only [Option.bind_some]
        rw [if_neg h1, if_neg h2]
theorem part_l0 (l : List Int) (h : Rdr l) : ∀ (d : Nat) (acc : List S44) (x1 x6 p : Int), acc.length + d = 12 → 0 ≤ x1 → x1 ≤ 1000 → 0 ≤ x6 → x6 ≤ 20 → 0 ≤ p → p ≤ 10000 + 3 * acc.length →
    ∃ out q, out.length ≤ 12 ∧ p ≤ q ∧ q ≤ p + 3 * d + 2 ∧ ∀ k, 2 * d + 4 ≤ k → spec_l92Part.l0 k x1 acc x6 l p = some (out, q) := by
  intro d
  induction d with
  | zero =>
    intro acc x1 x6 p ha h0 h1 h2 h3 hp hp'
    obtain ⟨out, q, ho, q0, q1, hq⟩ := part_end l h acc x1 x6 p (by omega) hp (by omega)
    refine ⟨out, q, ho, q0, by omega, fun k hk => ?_⟩
    obtain ⟨k, rfl⟩ : ∃ m, k = m + 1 := ⟨k - 1, by omega⟩
    rw [spec_l92Part.l0, decide_eq_false (show ¬ (acc.length : Int) < 12 by omega)]
    split
    · exact hq k (by omega)
    · exact hq k (by omega)
  | succ d ih =>
    intro acc x1 x6 p ha h0 h1 h2 h3 hp hp'
    by_cases hx1 : x1 > 0
    · have hmn : 1 ≤ mn 3 x1 ∧ mn 3 x1 ≤ 3 ∧ mn 3 x1 ≤ x1 := by
        unfold mn
        split <;> omega
      obtain ⟨n0, n1⟩ := pk_bd h p (mn 3 x1) (by omega) (by omega) (by omega) (by omega)
      have hn := fun k (hk : 1 ≤ k) => pk_f h p (mn 3 x1) k (by omega) (by omega) (by omega) (by omega) hk
      by_cases hx : Int.tmod x6 7 = 2
      · obtain ⟨v0, v1⟩ := pk_bd h (p + 1 + 1) 5 (by omega) (by omega) (by omega) (by omega)
        obtain ⟨c0, c1⟩ := clamp_bd 1 16 (x6 + pk l (p + 1 + 1) 5 - 2) (by omega)
        obtain ⟨out, q, ho, q0, q1, hq⟩ := ih (acc ++ [⟨⟨x6, pk l (p + 1) 3 == 0⟩, 1 + pk l p (mn 3 x1)⟩]) (x1 - (1 + pk l p (mn 3 x1))) (mx 1 (mn 16 (x6 + pk l (p + 1 + 1) 5 - 2))) (p + 1 + 1 + 1) (by simp; omega) (by omega) (by omega) (by omega) (by omega) (by omega) (by simp; omega)
        refine ⟨out, q, ho, by omega, by omega, fun k hk => ?_⟩
        obtain ⟨k, rfl⟩ : ∃ m, k = m + 2 := ⟨k - 2, by omega⟩
        rw [spec_l92Part.l0, if_pos hx1, decide_eq_true (show (acc.length : Int) < 12 by omega), spec_l92Part.j1, if_pos rfl, hn k (by omega)]
        simp only [Option.bind_some]
        rw [letter_f]
        simp only [Option.bind_some]
        rw [if_pos hx, pk_f h (p + 1) 3 k (by omega) (by omega) (by omega) (by omega) (by omega)]
        simp only [Option.bind_some]
        rw [if_pos (by omega), pk_f h (p + 1 + 1) 5 k (by omega) (by omega) (by omega) (by omega) (by omega)]
        simp only [Option.bind_some]
        rw [w0 (i := 1 + pk l p (mn 3 x1)) (by omega) (by omega), w0 (i := x1 - (1 + pk l p (mn 3 x1))) (by omega) (by omega), w0 (i := x6 + pk l (p + 1 + 1) 5) (by omega) (by omega), w0 (i := x6 + pk l (p + 1 + 1) 5 - 2) (by omega) (by omega)]
        exact hq k (by omega)
      · obtain ⟨v0, v1⟩ := pk_bd h (p + 1) 5 (by omega) (by omega) (by omega) (by omega)
        obtain ⟨c0, c1⟩ := clamp_bd 1 16 (x6 + pk l (p + 1) 5 - 2) (by omega)
        obtain ⟨out, q, ho, q0, q1, hq⟩ := ih (acc ++ [⟨⟨x6, false⟩, 1 + pk l p (mn 3 x1)⟩]) (x1 - (1 + pk l p (mn 3 x1))) (mx 1 (mn 16 (x6 + pk l (p + 1) 5 - 2))) (p + 1 + 1) (by simp; omega) (by omega) (by omega) (by omega) (by omega) (by omega) (by simp; omega)
        refine ⟨out, q, ho, by omega, by omega, fun k hk => ?_⟩
        obtain ⟨k, rfl⟩ : ∃ m, k = m + 2 := ⟨k - 2, by omega⟩
        rw [spec_l92Part.l0, if_pos hx1, decide_eq_true (show (acc.length : Int) < 12 by omega), spec_l92Part.j1, if_pos rfl, hn k (by omega)]
        simp only [Option.bind_some]
        rw [letter_f]
        simp only [Option.bind_some]
        rw [if_neg hx, if_pos (by omega), pk_f h (p + 1) 5 k (by omega) (by omega) (by omega) (by omega) (by omega)]
        simp only [Option.bind_some]
        rw [w0 (i := 1 + pk l p (mn 3 x1)) (by omega) (by omega), w0 (i := x1 - (1 + pk l p (mn 3 x1))) (by omega) (by omega), w0 (i := x6 + pk l (p + 1) 5) (by omega) (by omega), w0 (i := x6 + pk l (p + 1) 5 - 2) (by omega) (by omega)]
        exact hq k (by omega)
    · obtain ⟨out, q, ho, q0, q1, hq⟩ := part_end l h acc x1 x6 p (by omega) hp (by omega)
      refine ⟨out, q, ho, q0, by omega, fun k hk => ?_⟩
      obtain ⟨k, rfl⟩ : ∃ m, k = m + 1 := ⟨k - 1, by omega⟩
      rw [spec_l92Part.l0, if_neg hx1]
      exact hq k (by omega)
theorem part_d (l : List Int) (h : Rdr l) (p a : Int) (h0 : 0 ≤ a) (h1 : a ≤ 1000) (hp : 0 ≤ p) (hp' : p ≤ 9000) : ∃ out q, out.length ≤ 12 ∧ p ≤ q ∧ q ≤ p + 40 ∧ ∀ k, 40 ≤ k → spec_l92Part.f k l p a = some (out, q) := by
  obtain ⟨v0, v1⟩ := pk_bd h p 6 (by omega) (by omega) (by omega) (by omega)
  obtain ⟨out, q, ho, q0, q1, hq⟩ := part_l0 l h 12 [] a (5 + pk l p 6) (p + 1) rfl h0 h1 (by omega) (by omega) (by omega) (by simp; omega)
  refine ⟨out, q, ho, by omega, by omega, fun k hk => ?_⟩
  unfold spec_l92Part.f
  rw [pk_f h p 6 k (by omega) (by omega) (by omega) (by omega) (by omega)]
  simp only [Option.bind_some]
  rw [w0 (i := 5 + pk l p 6) (by omega) (by omega)]
  exact hq k (by omega)
theorem disc_l0 (l : List Int) (h : Rdr l) (a : List S44) : ∀ (d i : Nat) (b : List S44) (p : Int), i + d = b.length → b.length ≤ 12 → 0 ≤ p → p ≤ 10000 + i → ∃ c q, c.length ≤ 12 ∧ ∀ k, d + 2 ≤ k → spec_l92Discant.l0 k a b (i : Int) l p = some (a, c, q) := by
  intro d
  induction d with
  | zero =>
    intro i b p hi hb hp hp'
    refine ⟨b, p, hb, fun k hk => ?_⟩
    obtain ⟨k, rfl⟩ : ∃ m, k = m + 1 := ⟨k - 1, by omega⟩
    simp only [spec_l92Discant.l0]
    rw [if_neg (by omega)]
  | succ d ih =>
    intro i b p hi hb hp hp'
    obtain ⟨v0, v1⟩ := pk_bd h p 6 (by omega) (by omega) (by omega) (by omega)
    obtain ⟨c, q, hc, hq⟩ := ih (i + 1) (b.set ((i : Int)).toNat (⟨(⟨mn 20 (wrap64 ((mx 0 ((rd_T44 b (i : Int)).f0.f0)) + (rd ([4, 4, 3, 7, 0, 2] : List Int) (pk l p 6)))), false⟩ : S30), (rd_T44 b (i : Int)).f1⟩ : S44)) (p + 1) (by simp; omega) (by simpa using hb) (by omega) (by omega)
    refine ⟨c, q, hc, fun k hk => ?_⟩
    obtain ⟨k, rfl⟩ : ∃ m, k = m + 1 := ⟨k - 1, by omega⟩
    simp only [spec_l92Discant.l0, Option.bind_some]
    rw [if_pos (by omega), pk_f h p 6 k (by omega) (by omega) (by omega) (by omega) (by omega)]
    simp only [Option.bind_some]
    rw [if_pos v0, if_pos (by simpa using v1), if_pos (by omega), w1 (by omega)]
    exact hq k (by omega)
theorem disc_d (l : List Int) (h : Rdr l) (p : Int) (hp : 0 ≤ p) (hp' : p ≤ 4000) : ∃ a b q, a.length ≤ 12 ∧ b.length ≤ 12 ∧ ∀ k, 60 ≤ k → spec_l92Discant.f k l p = some (a, b, q) := by
  obtain ⟨n0, n1⟩ := pk_bd h p 12 (by omega) (by omega) (by omega) (by omega)
  obtain ⟨a, q, ha, q0, q1, hq⟩ := part_d l h (p + 1) (pk l p 12) n0 (by omega) (by omega) (by omega)
  by_cases h0 : pk l q 2 = 0
  · obtain ⟨c, q', hc, hd⟩ := disc_l0 l h a a.length 0 a (q + 1) (by omega) ha (by omega) (by omega)
    refine ⟨a, c, q', ha, hc, fun k hk => ?_⟩
    unfold spec_l92Discant.f
    rw [pk_f h p 12 k (by omega) (by omega) (by omega) (by omega) (by omega)]
    simp only [Option.bind_some]
    rw [hq k (by omega)]
    simp only [Option.bind_some]
    rw [pk_f h q 2 k (by omega) (by omega) (by omega) (by omega) (by omega)]
    simp only [Option.bind_some]
    rw [if_pos h0, if_pos (by simp; omega), List.nil_append]
    exact hd k (by omega)
  · by_cases h1 : pk l (q + 1) 8 = 0
    · obtain ⟨b, q', hb, r0, r1, hr⟩ := part_d l h (q + 1 + 1) (pk l p 12 + 1) (by omega) (by omega) (by omega) (by omega)
      refine ⟨a, b, q', ha, hb, fun k hk => ?_⟩
      unfold spec_l92Discant.f
      rw [pk_f h p 12 k (by omega) (by omega) (by omega) (by omega) (by omega)]
      simp only [Option.bind_some]
      rw [hq k (by omega)]
      simp only [Option.bind_some]
      rw [pk_f h q 2 k (by omega) (by omega) (by omega) (by omega) (by omega)]
      simp only [Option.bind_some]
      rw [if_neg h0, pk_f h (q + 1) 8 k (by omega) (by omega) (by omega) (by omega) (by omega)]
      simp only [Option.bind_some]
      rw [if_pos h1, w0 (i := pk l p 12 + 1) (by omega) (by omega), hr k (by omega)]
      rfl
    · obtain ⟨b, q', hb, r0, r1, hr⟩ := part_d l h (q + 1 + 1) (pk l p 12) (by omega) (by omega) (by omega) (by omega)
      refine ⟨a, b, q', ha, hb, fun k hk => ?_⟩
      unfold spec_l92Discant.f
      rw [pk_f h p 12 k (by omega) (by omega) (by omega) (by omega) (by omega)]
      simp only [Option.bind_some]
      rw [hq k (by omega)]
      simp only [Option.bind_some]
      rw [pk_f h q 2 k (by omega) (by omega) (by omega) (by omega) (by omega)]
      simp only [Option.bind_some]
      rw [if_neg h0, pk_f h (q + 1) 8 k (by omega) (by omega) (by omega) (by omega) (by omega)]
      simp only [Option.bind_some]
      rw [if_neg h1, hr k (by omega)]
      rfl
theorem ok_j2 (a b up : List S44) (o : Bool) (h : OK a b = true) (hu : o = true → OK a up = true) (k : Nat) (hk : 100 ≤ k) :
    laws_FnDiscantOk.j2 k a b (a.foldl slowStep []) true (b.foldl slowStep []) true up o = some true := by
  obtain ⟨k, rfl⟩ : ∃ m, k = m + 1 := ⟨k - 1, by omega⟩
  have hT := OK_TG h
  have hs := PV_sum (TG_0 hT)
  have hs2 := sumB_bd a (PV_all (TG_0 hT))
  have hn := PS_len hT
  have hL := OK_LI h
  have t1 : 0 ≤ Int.tdiv (sumB a + 2) 3 ∧ Int.tdiv (sumB a + 2) 3 ≤ 26 := by
    rw [Int.tdiv_eq_ediv_of_nonneg (by omega)]
    omega
  have hD : ((DC a b).length : Int) = Int.tdiv (sumB a + 2) 3 := by
    unfold DC
    rw [if_pos hT, hL, Int.tdiv_eq_ediv_of_nonneg (by omega)]
    omega
  simp only [laws_FnDiscantOk.j2]
  rw [if_pos trivial, if_pos trivial, oki_f b a k (by omega), Option.bind_some, if_pos (OK_swap h), oki_f _ _ k (by omega), Option.bind_some, if_pos (OK_slow h), dci_f a b k (by omega), Option.bind_some, pbi_f a k (by omega), Option.bind_some]
  unfold PB
  rw [if_pos (TG_0 hT), w0 (i := sumB a + 2) (by omega) (by omega), w0 (by omega) (by omega), if_pos hD]
  cases o with
  | false => rw [if_neg (by decide)]
  | true => rw [if_pos rfl, oki_f a up k (by omega), Option.bind_some, hu rfl]
theorem ok_l0 (a b up : List S44) (h : OK a b = true) (hd : DMV b 7 = (up, true)) : ∀ (d i k : Nat) (o : Bool), i + d = b.length → d + 150 ≤ k → (o = true → ∀ j (g : j < up.length) (g' : j < b.length), j < i → up[j].f0.f1 = b[j].f0.f1) →
    laws_FnDiscantOk.l0 k a b (a.foldl slowStep []) true (b.foldl slowStep []) true up true o (i : Int) = some true := by
  have hl := PV_len (TG_1 (OK_TG h))
  have hB := (DMV_ok hd).2.2.2.1
  have hul : up.length = b.length := by
    have := congrArg List.length hB
    simpa [beatsOf] using this
  intro d
  induction d with
  | zero =>
    intro i k o hi hk ho
    obtain ⟨k, rfl⟩ : ∃ m, k = m + 1 := ⟨k - 1, by omega⟩
    simp only [laws_FnDiscantOk.l0]
    rw [if_neg (by omega)]
    refine ok_j2 a b up o h (fun e => ?_) k (by omega)
    refine OK_up h hd (List.ext_getElem (by simp [hul]) (fun j g1 g2 => ?_))
    rw [List.getElem_map, List.getElem_map]
    exact ho e j (by simpa using g1) (by simpa using g2) (by simp only [List.length_map] at g1; omega)
  | succ d ih =>
    intro i k o hi hk ho
    obtain ⟨k, rfl⟩ : ∃ m, k = m + 1 := ⟨k - 1, by omega⟩
    have hx : i < b.length := by omega
    have hy : i < up.length := by omega
    simp only [laws_FnDiscantOk.l0]
    rw [if_pos (by omega), if_pos trivial, rdv_at b i hx, rdv_at up i hy, w1 (by omega)]
    cases o with
    | false =>
      rw [if_neg (by decide)]
      exact ih (i + 1) k false (by omega) (by omega) (fun e => absurd e (by decide))
    | true =>
      rw [if_pos rfl, if_pos (by omega), if_pos (by omega)]
      refine ih (i + 1) k _ (by omega) (by omega) (fun e j g g' hj => ?_)
      by_cases hji : j = i
      · subst hji
        simpa using e
      · exact ho rfl j g g' (by omega)
theorem FnDiscantOk : ∀ (l0 : List Int), l0.length ≤ maxLen → l0.length * 1 ≤ 140737488351232 → (∀ n ∈ l0, (Lit.int .u8 n).wf = true) → ∃ k, laws_FnDiscantOk.f k l0 = some true := by
  intro l0 z1 z2 hw
  refine ⟨303, ?_⟩
  unfold laws_FnDiscantOk.f
  by_cases h : (l0.length : Int) > 1048576
  · rw [if_pos h]
  · rw [if_neg h]
    obtain ⟨o, ho, hR⟩ := open_f l0 (bytes_of hw)
    obtain ⟨a, b, q, ha, hb, hq⟩ := disc_d o hR 0 (by omega) (by omega)
    have hd : spec_DrawDiscantOk.f 303 l0 = some (a, b) := by
      unfold spec_DrawDiscantOk.f
      rw [ho]
      simp only [Option.bind_some]
      rw [hq 303 (by omega)]
      rfl
    rw [hd, Option.bind_some]
    dsimp only
    rw [oki_f a b 303 (by omega), Option.bind_some, oks_f a b (by omega) (by omega) 303 (by omega), Option.bind_some, if_neg (by simp), laws_FnDiscantOk.j0]
    by_cases hO : OK a b = true
    · have hT := OK_TG hO
      have ea : PSl a = (a.foldl slowStep [], true) := by unfold PSl; rw [if_pos (TG_0 hT)]
      have eb : PSl b = (b.foldl slowStep [], true) := by unfold PSl; rw [if_pos (TG_1 hT)]
      rw [hO, Bool.not_true, if_neg (by decide), sli_f a 302 (by omega), Option.bind_some, sli_f b 302 (by omega), Option.bind_some, ea, eb, dmi_f b 7 302 (by omega), Option.bind_some]
      dsimp only
      obtain ⟨up, r, hd2⟩ : ∃ up r, DMV b 7 = (up, r) := ⟨_, _, rfl⟩
      rw [hd2]
      dsimp only
      cases r with
      | true => exact ok_l0 a b up hO hd2 b.length 0 302 true (by omega) (by omega) (fun _ j _ _ hj => absurd hj (by omega))
      | false =>
        rw [laws_FnDiscantOk.l0]
        have hj2 := ok_j2 a b up false hO (fun e => absurd e (by decide)) 301 (by omega)
        split
        · rw [if_neg (by decide)]
          exact hj2
        · exact hj2
    · rw [Bool.eq_false_iff.mpr hO]
      rfl

end Go.Proofs.YtcndojoghmblaaaDoor.PureFnDiscantOk
