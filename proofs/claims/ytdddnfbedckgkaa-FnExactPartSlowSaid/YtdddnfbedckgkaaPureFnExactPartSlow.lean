/- FnExactPartSlow: for every list of voices with at most 1048576 of them the program's PartSlow answers as the reference's does, leaves its argument alone, and its answer lies apart from it (longer lists the statement lets pass). No condition beyond the statement's own. -/
import Derived.Test.YtdddnfbedckgkaaGSx0
import Derived.Test.YtdddnfbedckgkaaGSx4
import Derived.Test.YtdddnfbedckgkaaGSx5
import Derived.Test.YtdddnfbedckgkaaGSx7
import Derived.Test.YtdddnfbedckgkaaGSx3
import Derived.Test.YtdddnfbedckgkaaGSx6
import Derived.Test.YtdddnfbedckgkaaGSx8
import Derived.Test.YtdddnfbedckgkaaGSx9
import Derived.Test.YtdddnfbedckgkaaGSx10
namespace Go.Proofs.Ytdddnfbedckgkaa.PureFnExactPartSlow
open Go.RowKit Go.Proofs.Ytdddnfbedckgkaa.GS Go.Proofs.YtdddnfbedckgkaaW.PrintWords Go.Proofs.YtdddnfbedckgkaaW.PrintLast Go.Proofs.YtdddnfbedckgkaaW.PrintMore 
set_option linter.unusedVariables false
set_option linter.unusedSimpArgs false
theorem w1 {i : Nat} (h : i < 4611686018427387904) : wrap64 ((i : Int) + 1) = ((i + 1 : Nat) : Int) := by
  unfold wrap64
  omega
theorem w0 {i : Int} (h : -9223372036854775808 ≤ i) (h' : i ≤ 9223372036854775807) : wrap64 i = i := by
  unfold wrap64
  omega
theorem rd_at (xs : List Int) (i : Nat) (h : i < xs.length) : rd xs (i : Int) = xs[i] := by
  simp [rd, List.getD_eq_getElem?_getD, h]
/-- A tone of the gamut. -/
def tv (a : Int) (b : Bool) : Bool := decide (0 ≤ a) && (decide (a ≤ 20) && (!b || decide (Int.tmod a 7 = 2)))
theorem tv_spec (a : Int) (b : Bool) : spec_ToneValid.f a b = some (tv a b) := by
  unfold spec_ToneValid.f spec_l6In.f spec_l1Letter.f tv
  by_cases h0 : a ≥ 0
  · rw [if_pos h0, decide_eq_true (show 0 ≤ a from h0)]
    by_cases h1 : a ≤ 20
    · simp only [h1, decide_true, Option.bind_some, if_true, Bool.true_and]
      cases b
      · rfl
      · simp
        rfl
    · simp [h1]
  · rw [if_neg h0, decide_eq_false (show ¬ 0 ≤ a from h0)]
    rfl
theorem tv_impl (a : Int) (b : Bool) : impl_Tone_valid.f a b = some (tv a b) := by
  unfold impl_Tone_valid.f tv
  by_cases h0 : a ≥ 0
  · rw [if_pos h0, decide_eq_true (show 0 ≤ a from h0)]
    by_cases h1 : a ≤ 20
    · rw [if_pos h1, decide_eq_true h1]
      cases b
      · rfl
      · simp
        rfl
    · rw [if_neg h1, decide_eq_false h1]
      rfl
  · rw [if_neg h0, decide_eq_false (show ¬ 0 ≤ a from h0)]
    rfl
theorem in_spec (a b c : Int) : spec_l6In.f a b c = some (decide (b ≤ a) && decide (a ≤ c)) := by
  unfold spec_l6In.f
  by_cases h0 : a ≥ b
  · rw [if_pos h0, decide_eq_true (show b ≤ a from h0)]; rfl
  · rw [if_neg h0, decide_eq_false (show ¬ b ≤ a from h0)]; rfl
def vv (v : S59) : Bool := tv v.f0.f0 v.f0.f1 && (decide (1 ≤ v.f1) && decide (v.f1 ≤ 3))
theorem rdv_at (xs : List S59) (i : Nat) (h : i < xs.length) : rd_T59 xs (i : Int) = xs[i] := by
  simp [rd_T59, List.getD_eq_getElem?_getD, h]
theorem rdlv_at (xs : List S71) (i : Nat) (h : i < xs.length) : rd_T71 xs (i : Int) = xs[i] := by
  simp [rd_T71, List.getD_eq_getElem?_getD, h]
def conv (v : S71) : S59 := ⟨⟨v.f0.f0, v.f0.f1⟩, v.f1⟩
theorem toVoiceS_l0 : ∀ (xs : List S71) (zs pre : List S59) (pre0 : List S71) (k : Nat), zs.length = xs.length → pre.length = pre0.length → (pre0 ++ xs).length < 4611686018427387904 → xs.length < k → laws_toVoiceS.l0 k (pre0 ++ xs) (pre ++ zs) (pre0.length : Int) = some (pre ++ xs.map conv) := by
  intro xs
  induction xs with
  | nil =>
    intro zs pre pre0 k hz hp hb hk
    obtain ⟨k, rfl⟩ : ∃ m, k = m + 1 := ⟨k - 1, by omega⟩
    simp only [laws_toVoiceS.l0]
    rw [if_neg (by simp)]
    have : zs = [] := List.length_eq_zero_iff.mp hz
    rw [this]
    rfl
  | cons x xs ih =>
    intro zs pre pre0 k hz hp hb hk
    obtain ⟨k, rfl⟩ : ∃ m, k = m + 1 := ⟨k - 1, by omega⟩
    match zs, hz with
    | z :: zs, hz =>
    simp only [List.length_append, List.length_cons] at hb hk hz
    have hq : pre0.length < (pre0 ++ x :: xs).length := by simp
    have hq2 : pre0.length < (pre ++ z :: zs).length := by simp [hp]
    have e1 : (pre0 ++ x :: xs)[pre0.length]'hq = x := by simp
    simp only [laws_toVoiceS.l0]
    rw [if_pos (by omega), if_pos (by omega), rdlv_at _ _ hq, e1]
    simp only [laws_toVoice.f, laws_toTone.f, Option.bind_some]
    rw [if_pos (by omega), w1 (by omega)]
    have e2 : (pre ++ z :: zs).set ((pre0.length : Int)).toNat (conv x) = (pre ++ [conv x]) ++ zs := by simp [← hp]
    have := ih zs (pre ++ [conv x]) (pre0 ++ [x]) k (by omega) (by simp [hp]) (by simp; omega) (by omega)
    rw [show (⟨⟨x.f0.f0, x.f0.f1⟩, x.f1⟩ : S59) = conv x from rfl, e2]
    simpa using this
theorem toVoiceS_f (xs : List S71) (k : Nat) (hb : xs.length ≤ 1048576) (hk : xs.length < k) : laws_toVoiceS.f k xs = some (xs.map conv) := by
  unfold laws_toVoiceS.f
  rw [if_pos (by omega), if_pos (by omega)]
  simpa using toVoiceS_l0 xs (List.replicate xs.length z59) [] [] k (by simp) rfl (by simp; omega) hk
theorem eqVoice_self (v : S59) : laws_eqVoice.f v.f0.f0 v.f0.f1 v.f1 v.f0.f0 v.f0.f1 v.f1 = some true := by
  simp [laws_eqVoice.f, laws_eqTone.f]
theorem eqVoiceS_l0 (xs : List S59) (hb : xs.length < 4611686018427387904) : ∀ (d i k : Nat), i + d = xs.length → d < k → laws_eqVoiceS.l0 k xs xs (i : Int) = some true := by
  intro d
  induction d with
  | zero =>
    intro i k hi hk
    obtain ⟨k, rfl⟩ : ∃ m, k = m + 1 := ⟨k - 1, by omega⟩
    simp only [laws_eqVoiceS.l0]
    rw [if_neg (by omega)]
  | succ d ih =>
    intro i k hi hk
    obtain ⟨k, rfl⟩ : ∃ m, k = m + 1 := ⟨k - 1, by omega⟩
    simp only [laws_eqVoiceS.l0]
    rw [if_pos (by omega), if_pos (by omega), if_pos (by omega), rdv_at xs i (by omega), eqVoice_self]
    simp only [Option.bind_some, if_true]
    rw [w1 (by omega)]
    exact ih (i + 1) k (by omega) (by omega)
theorem eqVoiceS_f (xs : List S59) (k : Nat) (hb : xs.length ≤ 1048576) (hk : xs.length < k) : laws_eqVoiceS.f k xs xs = some true := by
  unfold laws_eqVoiceS.f
  rw [if_pos rfl]
  simpa using eqVoiceS_l0 xs (by omega) xs.length 0 k (by omega) hk
theorem szVoiceS_f (xs : List S71) (a : Int) (h0 : 0 ≤ a) (h1 : a ≤ 1048576) (hl : xs.length ≤ 9223372036854775807) : laws_szVoiceS.f xs a = some (if (xs.length : Int) ≤ a then a - xs.length else -1) := by
  unfold laws_szVoiceS.f
  rw [w0 (by omega) (by omega)]
  by_cases h : (xs.length : Int) ≤ a
  · rw [if_neg (by omega), if_pos h]
  · rw [if_pos (by omega), if_neg h]
def sumB (l : List S59) : Int := (l.map (·.f1)).sum
theorem sumB_cons (v : S59) (l : List S59) : sumB (v :: l) = v.f1 + sumB l := by simp [sumB]
theorem vv_bd {v : S59} (h : vv v = true) : 1 ≤ v.f1 ∧ v.f1 ≤ 3 := by
  unfold vv at h
  simp only [Bool.and_eq_true, decide_eq_true_eq] at h
  exact h.2
theorem sumB_bd (l : List S59) (h : l.all vv = true) : 0 ≤ sumB l ∧ sumB l ≤ 3 * l.length := by
  induction l with
  | nil => simp [sumB]
  | cons v l ih =>
    simp only [List.all_cons, Bool.and_eq_true] at h
    have h1 := vv_bd h.1
    have h2 := ih h.2
    rw [sumB_cons, List.length_cons]
    omega
def PV (l : List S59) : Bool := decide (l.length ≤ 12) && (l.all vv && decide (sumB l ≤ 24))
theorem PV_len {l : List S59} (h : PV l = true) : l.length ≤ 12 := by
  unfold PV at h
  simp only [Bool.and_eq_true, decide_eq_true_eq] at h
  exact h.1
theorem PV_all {l : List S59} (h : PV l = true) : l.all vv = true := by
  unfold PV at h
  simp only [Bool.and_eq_true, decide_eq_true_eq] at h
  exact h.2.1
theorem PV_sum {l : List S59} (h : PV l = true) : sumB l ≤ 24 := by
  unfold PV at h
  simp only [Bool.and_eq_true, decide_eq_true_eq] at h
  exact h.2.2
theorem beats_l0 (l : List S59) (hl : l.length ≤ 12) (hv : l.all vv = true) : ∀ (d i k : Nat) (a : Int), i + d = l.length → d < k → 0 ≤ a → a ≤ 3 * i → spec_l8Beats.l0 k l a (i : Int) = some (a + sumB (l.drop i)) := by
  intro d
  induction d with
  | zero =>
    intro i k a hi hk h0 h1
    obtain ⟨k, rfl⟩ : ∃ m, k = m + 1 := ⟨k - 1, by omega⟩
    simp only [spec_l8Beats.l0]
    rw [if_neg (by omega), List.drop_eq_nil_of_le (by omega)]
    simp [sumB]
  | succ d ih =>
    intro i k a hi hk h0 h1
    obtain ⟨k, rfl⟩ : ∃ m, k = m + 1 := ⟨k - 1, by omega⟩
    have hx : i < l.length := by omega
    have hb := vv_bd (List.all_eq_true.1 hv _ (List.getElem_mem hx))
    simp only [spec_l8Beats.l0]
    rw [if_pos (by omega), if_pos (by omega), rdv_at l i hx, w1 (by omega), w0 (by omega) (by omega), ih (i + 1) k _ (by omega) (by omega) (by omega) (by omega), List.drop_eq_getElem_cons hx, sumB_cons]
    congr 1
    omega
theorem beats_f (l : List S59) (hl : l.length ≤ 12) (hv : l.all vv = true) (k : Nat) (hk : 13 ≤ k) : spec_l8Beats.f k l = some (sumB l) := by
  unfold spec_l8Beats.f
  simpa using beats_l0 l hl hv l.length 0 k 0 (by omega) (by omega) (by omega) (by omega)
theorem pvs_l0 (l : List S59) (hb : l.length < 4611686018427387904) : ∀ (d i k : Nat), i + d = l.length → d + 14 < k → (l.take i).all vv = true → spec_PartValid.l0 k l (i : Int) = some (PV l) := by
  intro d
  induction d with
  | zero =>
    intro i k hi hk hv
    obtain ⟨k, rfl⟩ : ∃ m, k = m + 1 := ⟨k - 1, by omega⟩
    rw [List.take_of_length_le (by omega)] at hv
    simp only [spec_PartValid.l0]
    rw [if_neg (by omega)]
    unfold PV
    rw [hv]
    by_cases hl : l.length ≤ 12
    · rw [if_pos (by omega), beats_f l hl hv k (by omega), decide_eq_true hl]
      rfl
    · rw [if_neg (by omega), decide_eq_false hl]
      rfl
  | succ d ih =>
    intro i k hi hk hv
    obtain ⟨k, rfl⟩ : ∃ m, k = m + 1 := ⟨k - 1, by omega⟩
    have hx : i < l.length := by omega
    simp only [spec_PartValid.l0]
    rw [if_pos (by omega), if_pos (by omega), rdv_at l i hx, tv_spec, in_spec]
    simp only [Option.bind_some]
    by_cases hvi : vv l[i] = true
    · have hvi2 := hvi
      unfold vv at hvi2
      simp only [Bool.and_eq_true] at hvi2
      rw [if_pos hvi2.1, if_pos (by simpa using hvi2.2), w1 (by omega)]
      refine ih (i + 1) k (by omega) (by omega) ?_
      rw [List.take_succ_eq_append_getElem hx, List.all_append, hv]
      simp [hvi]
    · have hF : PV l = false := by
        have : l.all vv = false := by
          rw [Bool.eq_false_iff]
          intro h
          exact hvi (List.all_eq_true.1 h _ (List.getElem_mem hx))
        unfold PV
        rw [this]
        simp
      rw [hF]
      unfold vv at hvi
      by_cases h1 : tv l[i].f0.f0 l[i].f0.f1 = true
      · rw [if_pos h1]
        rw [h1, Bool.true_and] at hvi
        rw [if_neg hvi]
      · rw [if_neg h1]
theorem pvs_f (l : List S59) (hb : l.length ≤ 1048576) (k : Nat) (hk : l.length + 15 < k) : spec_PartValid.f k l = some (PV l) := by
  unfold spec_PartValid.f
  simpa using pvs_l0 l (by omega) l.length 0 k (by omega) (by omega) (by simp)
theorem pvi_l0 (l : List S59) (hl : l.length ≤ 12) : ∀ (d i k : Nat) (a : Int), i + d = l.length → d < k → 0 ≤ a → a ≤ 3 * i → impl_PartValid.l0 k a l (l.length : Int) (i : Int) = some ((l.drop i).all vv && decide (a + sumB (l.drop i) ≤ 24)) := by
  intro d
  induction d with
  | zero =>
    intro i k a hi hk h0 h1
    obtain ⟨k, rfl⟩ : ∃ m, k = m + 1 := ⟨k - 1, by omega⟩
    simp only [impl_PartValid.l0]
    rw [if_neg (by omega), List.drop_eq_nil_of_le (by omega)]
    simp [sumB]
  | succ d ih =>
    intro i k a hi hk h0 h1
    obtain ⟨k, rfl⟩ : ∃ m, k = m + 1 := ⟨k - 1, by omega⟩
    have hx : i < l.length := by omega
    simp only [impl_PartValid.l0]
    rw [if_pos (by omega), if_pos (by omega), if_pos (by omega), rdv_at l i hx, tv_impl, List.drop_eq_getElem_cons hx, sumB_cons, List.all_cons]
    simp only [Option.bind_some]
    by_cases ht : tv l[i].f0.f0 l[i].f0.f1 = true
    · rw [if_pos ht]
      by_cases h3 : l[i].f1 < 1
      · rw [if_pos h3]
        have : vv l[i] = false := by unfold vv; rw [decide_eq_false (show ¬ 1 ≤ l[i].f1 by omega)]; simp
        rw [this]
        rfl
      · rw [if_neg h3]
        by_cases h4 : l[i].f1 > 3
        · rw [if_pos h4]
          have : vv l[i] = false := by unfold vv; rw [decide_eq_false (show ¬ l[i].f1 ≤ 3 by omega)]; simp
          rw [this]
          rfl
        · have : vv l[i] = true := by unfold vv; rw [ht, decide_eq_true (show 1 ≤ l[i].f1 by omega), decide_eq_true (show l[i].f1 ≤ 3 by omega)]; rfl
          rw [if_neg h4, w1 (by omega), w0 (by omega) (by omega), ih (i + 1) k _ (by omega) (by omega) (by omega) (by omega), this, Bool.true_and, Int.add_assoc]
    · rw [if_neg ht]
      have : vv l[i] = false := by unfold vv; rw [Bool.eq_false_iff.mpr ht]; rfl
      rw [this]
      rfl
theorem pvi_f (l : List S59) (k : Nat) (hk : 13 ≤ k) : impl_PartValid.f k l = some (PV l) := by
  unfold impl_PartValid.f PV
  by_cases hl : l.length ≤ 12
  · rw [if_neg (by omega), decide_eq_true hl, Bool.true_and]
    simpa using pvi_l0 l hl l.length 0 k 0 (by omega) (by omega) (by omega) (by omega)
  · rw [if_pos (by omega), decide_eq_false hl]
    rfl
def add1 (acc : List S59) (v : S59) : List S59 := acc ++ [(⟨(⟨v.f0.f0, v.f0.f1⟩ : S48), v.f1⟩ : S59)]
def lastV (acc : List S59) : S59 := rd_T59 acc ((acc.length - 1 : Nat) : Int)
/-- A voice joins the slower part. -/
def slowStep (acc : List S59) (v : S59) : List S59 :=
  if acc.length = 0 then add1 acc v
  else if ((lastV acc).f0.f0 == v.f0.f0 && ((lastV acc).f0.f1 == v.f0.f1)) = true then
    (if (lastV acc).f1 + v.f1 ≤ 3 then acc.set (acc.length - 1) (⟨(⟨(lastV acc).f0.f0, (lastV acc).f0.f1⟩ : S48), (lastV acc).f1 + v.f1⟩ : S59) else add1 acc v)
  else add1 acc v
def bts (l : List S59) : Prop := ∀ v ∈ l, 1 ≤ v.f1 ∧ v.f1 ≤ 3
theorem lastV_mem {acc : List S59} (h : ¬ acc.length = 0) : lastV acc ∈ acc := by
  unfold lastV
  rw [rdv_at acc (acc.length - 1) (by omega)]
  exact List.getElem_mem _
theorem slowStep_len (acc : List S59) (v : S59) : (slowStep acc v).length ≤ acc.length + 1 := by
  unfold slowStep add1
  (repeat' split) <;> simp
theorem slowStep_bts {acc : List S59} {v : S59} (h : bts acc) (hv : 1 ≤ v.f1 ∧ v.f1 ≤ 3) : bts (slowStep acc v) := by
  have ha : bts (add1 acc v) := by
    intro x hx
    unfold add1 at hx
    rcases List.mem_append.1 hx with hx | hx
    · exact h x hx
    · rw [List.mem_singleton.1 hx]
      exact hv
  unfold slowStep
  split
  · exact ha
  · rename_i hn
    split
    · split
      · rename_i h3
        intro x hx
        rcases List.mem_or_eq_of_mem_set hx with hx | rfl
        · exact h x hx
        · have := h _ (lastV_mem hn)
          exact ⟨by show 1 ≤ (lastV acc).f1 + v.f1; omega, h3⟩
      · exact ha
    · exact ha
theorem slows_l0 (l : List S59) (hl : l.length ≤ 12) (hv : bts l) : ∀ (d i k : Nat) (acc : List S59), i + d = l.length → acc.length ≤ i → bts acc → d < k → spec_PartSlow.l0 k l acc (i : Int) = some ((l.drop i).foldl slowStep acc, true) := by
  intro d
  induction d with
  | zero =>
    intro i k acc hi ha hb hk
    obtain ⟨k, rfl⟩ : ∃ m, k = m + 1 := ⟨k - 1, by omega⟩
    simp only [spec_PartSlow.l0]
    rw [if_neg (by omega), List.drop_eq_nil_of_le (by omega)]
    rfl
  | succ d ih =>
    intro i k acc hi ha hb hk
    obtain ⟨k, rfl⟩ : ∃ m, k = m + 1 := ⟨k - 1, by omega⟩
    have hx : i < l.length := by omega
    have hvi := hv l[i] (List.getElem_mem hx)
    have hn := ih (i + 1) k (slowStep acc l[i]) (by omega) (by have := slowStep_len acc l[i]; omega) (slowStep_bts hb hvi) (by omega)
    rw [List.drop_eq_getElem_cons hx, List.foldl_cons, ← hn]
    simp only [spec_PartSlow.l0]
    rw [if_pos (by omega), rdv_at l i hx, w1 (by omega)]
    by_cases h0 : acc.length = 0
    · have e : wrap64 ((acc.length : Int) - 1) = -1 := by rw [w0 (by omega) (by omega)]; omega
      rw [e, if_neg (by omega), if_pos (by omega), if_pos (by omega)]
      unfold slowStep
      rw [if_pos h0]
      rfl
    · have e : wrap64 ((acc.length : Int) - 1) = ((acc.length - 1 : Nat) : Int) := by rw [w0 (by omega) (by omega)]; omega
      have hL := hb _ (lastV_mem h0)
      rw [e, if_pos (by omega), if_pos (by omega), if_pos (by omega), if_pos (by omega)]
      rw [show rd_T59 acc ((acc.length - 1 : Nat) : Int) = lastV acc from rfl, w0 (i := (lastV acc).f1 + l[i].f1) (by omega) (by omega)]
      unfold slowStep
      rw [if_neg h0]
      by_cases h1 : ((lastV acc).f0.f0 == l[i].f0.f0 && ((lastV acc).f0.f1 == l[i].f0.f1)) = true
      · rw [if_pos h1, if_pos h1]
        by_cases h2 : (lastV acc).f1 + l[i].f1 ≤ 3
        · rw [if_pos h2, if_pos h2, Int.toNat_natCast]
        · rw [if_neg h2, if_neg h2, if_pos (by omega)]
          rfl
      · rw [if_neg h1, if_neg h1, if_pos (by omega)]
        rfl
theorem slowi_l0 (l : List S59) (hl : l.length ≤ 12) (hv : bts l) : ∀ (d i k : Nat) (acc : List S59), i + d = l.length → acc.length ≤ i → bts acc → d < k → impl_PartSlow.l0 k acc l (l.length : Int) (i : Int) = some ((l.drop i).foldl slowStep acc, true) := by
  intro d
  induction d with
  | zero =>
    intro i k acc hi ha hb hk
    obtain ⟨k, rfl⟩ : ∃ m, k = m + 1 := ⟨k - 1, by omega⟩
    simp only [impl_PartSlow.l0]
    rw [if_neg (by omega), List.drop_eq_nil_of_le (by omega)]
    rfl
  | succ d ih =>
    intro i k acc hi ha hb hk
    obtain ⟨k, rfl⟩ : ∃ m, k = m + 1 := ⟨k - 1, by omega⟩
    have hx : i < l.length := by omega
    have hvi := hv l[i] (List.getElem_mem hx)
    have hn := ih (i + 1) k (slowStep acc l[i]) (by omega) (by have := slowStep_len acc l[i]; omega) (slowStep_bts hb hvi) (by omega)
    rw [List.drop_eq_getElem_cons hx, List.foldl_cons, ← hn]
    simp only [impl_PartSlow.l0]
    rw [if_pos (by omega), if_pos (by omega), if_pos (by omega), rdv_at l i hx, w1 (by omega)]
    by_cases h0 : acc.length = 0
    · have e : wrap64 ((acc.length : Int) - 1) = -1 := by rw [w0 (by omega) (by omega)]; omega
      rw [e, if_neg (by omega), if_pos (by omega)]
      unfold slowStep
      rw [if_pos h0]
      rfl
    · have e : wrap64 ((acc.length : Int) - 1) = ((acc.length - 1 : Nat) : Int) := by rw [w0 (by omega) (by omega)]; omega
      have hL := hb _ (lastV_mem h0)
      rw [e, if_pos (by omega), if_pos (by omega), if_pos (by omega)]
      rw [show rd_T59 acc ((acc.length - 1 : Nat) : Int) = lastV acc from rfl, w0 (i := (lastV acc).f1 + l[i].f1) (by omega) (by omega)]
      unfold slowStep
      rw [if_neg h0]
      by_cases h1 : ((lastV acc).f0.f0 == l[i].f0.f0 && ((lastV acc).f0.f1 == l[i].f0.f1)) = true
      · rw [if_pos h1, if_pos h1]
        by_cases h2 : (lastV acc).f1 + l[i].f1 ≤ 3
        · rw [if_pos h2, if_pos h2, Int.toNat_natCast]
        · rw [if_neg h2, if_neg h2, if_pos (by omega)]
          rfl
      · rw [if_neg h1, if_neg h1, if_pos (by omega)]
        rfl
/-- The slower part. -/
def PSl (l : List S59) : List S59 × Bool := if PV l = true then (l.foldl slowStep [], true) else ([], false)
theorem PV_bts {l : List S59} (h : PV l = true) : bts l := fun v hv => vv_bd (List.all_eq_true.1 (PV_all h) v hv)
theorem sls_f (l : List S59) (hb : l.length ≤ 1048576) (k : Nat) (hk : l.length + 15 < k) : spec_PartSlow.f k l = some (PSl l) := by
  unfold spec_PartSlow.f PSl
  simp only [Option.bind_some]
  rw [pvs_f l hb k hk, Option.bind_some]
  by_cases h : PV l = true
  · rw [if_pos h, if_pos h]
    simpa using slows_l0 l (PV_len h) (PV_bts h) l.length 0 k [] (by omega) (by simp) (by intro v hv; cases hv) (by omega)
  · rw [if_neg h, if_neg h]
theorem sli_f (l : List S59) (k : Nat) (hk : 13 ≤ k) : impl_PartSlow.f k l = some (PSl l) := by
  unfold impl_PartSlow.f PSl
  rw [pvi_f l k hk, Option.bind_some]
  by_cases h : PV l = true
  · rw [if_pos h, if_pos h]
    have := PV_len h
    simpa using slowi_l0 l (PV_len h) (PV_bts h) l.length 0 k [] (by omega) (by simp) (by intro v hv; cases hv) (by omega)
  · rw [if_neg h, if_neg h]
theorem fold_len (l : List S59) : ∀ acc : List S59, (l.foldl slowStep acc).length ≤ acc.length + l.length := by
  induction l with
  | nil => intro acc; simp
  | cons v l ih =>
    intro acc
    have h1 := ih (slowStep acc v)
    have h2 := slowStep_len acc v
    simp only [List.foldl_cons, List.length_cons]
    omega
theorem PSl_len (l : List S59) : (PSl l).1.length ≤ 12 := by
  unfold PSl
  by_cases h : PV l = true
  · rw [if_pos h]
    have := fold_len l []
    have := PV_len h
    simp only [List.length_nil] at *
    omega
  · rw [if_neg h]
    simp
def mkV (m : Int) : S59 := ⟨⟨m, Int.tmod (m + 1) 3 == 0⟩, m + 2⟩
def marksV : Int → Nat → List S59
  | _, 0 => []
  | m, n + 1 => mkV m :: marksV (m + 3) n
theorem marksV_length (n : Nat) : ∀ m, (marksV m n).length = n := by
  induction n with
  | zero => intro m; rfl
  | succ n ih => intro m; simp [marksV, ih]
theorem markV_l0 : ∀ (xs pre : List S59) (m : Int) (k : Nat), 0 ≤ m → m + 3 * xs.length < 4611686018427387904 → (pre ++ xs).length < 4611686018427387904 → xs.length < k →
    laws_markVoiceS.l0 k (pre ++ xs) m (pre.length : Int) = some (m + 3 * xs.length, pre ++ marksV m xs.length) := by
  intro xs
  induction xs with
  | nil =>
    intro pre m k hm hb hl hk
    obtain ⟨k, rfl⟩ : ∃ m, k = m + 1 := ⟨k - 1, by omega⟩
    simp only [laws_markVoiceS.l0]
    rw [if_neg (by simp)]
    simp [marksV]
  | cons x xs ih =>
    intro pre m k hm hb hl hk
    obtain ⟨k, rfl⟩ : ∃ m, k = m + 1 := ⟨k - 1, by omega⟩
    simp only [List.length_append, List.length_cons] at hb hl hk
    simp only [laws_markVoiceS.l0, Option.bind_some]
    rw [if_pos (by simp; omega), if_pos (by omega), w0 (i := m + 1) (by omega) (by omega), w0 (i := m + 1 + 1) (by omega) (by omega), w0 (i := m + 1 + 1 + 1) (by omega) (by omega), w1 (by omega)]
    have e : ∀ (y z : S59), (pre ++ y :: xs).set ((pre.length : Int)).toNat z = pre ++ z :: xs := fun y z => by simp
    have r : ∀ (y : S59), rd_T59 (pre ++ y :: xs) (pre.length : Int) = y := fun y => by rw [rdv_at _ _ (by simp)]; simp
    simp only [e, r]
    have := ih (pre ++ [mkV m]) (m + 3) k (by omega) (by omega) (by simp; omega) (by omega)
    rw [show (⟨⟨m, Int.tmod (m + 1) 3 == 0⟩, m + 1 + 1⟩ : S59) = mkV m by unfold mkV; rw [show m + 1 + 1 = m + 2 by omega], show m + 1 + 1 + 1 = m + 3 by omega]
    simp only [List.append_assoc, List.singleton_append, List.length_append, List.length_singleton] at this
    rw [this]
    simp only [marksV, List.length_cons]
    rw [show m + 3 + 3 * (xs.length : Int) = m + 3 * ((xs.length + 1 : Nat) : Int) by omega]
theorem markV_f (xs : List S59) (k : Nat) (hb : xs.length ≤ 1048576) (hk : xs.length < k) : laws_markVoiceS.f k xs 1 = some (1 + 3 * (xs.length : Int), marksV 1 xs.length) := by
  unfold laws_markVoiceS.f
  simpa using markV_l0 xs [] 1 k (by omega) (by omega) (by simp; omega) hk
theorem heldV_l0 : ∀ (n : Nat) (pre : List S59) (m : Int) (k : Nat), 0 ≤ m → m + 3 * n < 4611686018427387904 → pre.length + n < 4611686018427387904 → n < k →
    laws_heldVoiceS.l0 k (pre ++ marksV m n) m (pre.length : Int) = some (m + 3 * n) := by
  intro n
  induction n with
  | zero =>
    intro pre m k hm hb hl hk
    obtain ⟨k, rfl⟩ : ∃ m, k = m + 1 := ⟨k - 1, by omega⟩
    simp only [laws_heldVoiceS.l0]
    rw [if_neg (by simp [marksV])]
    simp
  | succ n ih =>
    intro pre m k hm hb hl hk
    obtain ⟨k, rfl⟩ : ∃ m, k = m + 1 := ⟨k - 1, by omega⟩
    have em : marksV m (n + 1) = mkV m :: marksV (m + 3) n := rfl
    have r : rd_T59 (pre ++ mkV m :: marksV (m + 3) n) (pre.length : Int) = mkV m := by rw [rdv_at _ _ (by simp)]; simp
    rw [em, laws_heldVoiceS.l0, if_pos (by simp only [List.length_append, List.length_cons, marksV_length]; omega), if_pos (by omega), r, w0 (i := m + 1) (by omega) (by omega), w0 (i := m + 1 + 1) (by omega) (by omega), w0 (i := m + 1 + 1 + 1) (by omega) (by omega), w1 (by omega)]
    rw [if_pos (show (mkV m).f0.f0 = m from rfl), if_neg (show ¬ (((mkV m).f0.f1 != (Int.tmod (m + 1) 3 == 0)) = true) by simp [mkV]), if_pos (show (mkV m).f1 = m + 1 + 1 by simp only [mkV]; omega)]
    have := ih (pre ++ [mkV m]) (m + 3) k (by omega) (by omega) (by simp; omega) (by omega)
    simp only [List.append_assoc, List.singleton_append, List.length_append, List.length_singleton] at this
    rw [show m + 1 + 1 + 1 = m + 3 by omega, this, show m + 3 + 3 * (n : Int) = m + 3 * ((n + 1 : Nat) : Int) by omega]
theorem heldV_f (n : Nat) (k : Nat) (hb : n ≤ 1048576) (hk : n < k) : laws_heldVoiceS.f k (marksV 1 n) 1 = some (1 + 3 * (n : Int)) := by
  unfold laws_heldVoiceS.f
  simpa using heldV_l0 n [] 1 k (by omega) (by omega) (by simp; omega) hk
theorem FnExactPartSlow : ∀ (l0 : List S71), l0.length ≤ maxLen → ∃ k, laws_FnExactPartSlow.f k l0 = some true := by
  intro l hl
  have hl2 : l.length ≤ 9223372036854775807 := by unfold maxLen at hl; exact hl
  have e := szVoiceS_f l 1048576 (by omega) (by omega) hl2
  by_cases h : l.length ≤ 1048576
  · rw [if_pos (by omega)] at e
    obtain ⟨m, hm⟩ : ∃ m, m = l.map conv := ⟨_, rfl⟩
    have hml : m.length = l.length := by rw [hm]; simp
    have t : ∀ k, l.length < k → laws_toVoiceS.f k l = some m := fun k hk => by rw [hm]; exact toVoiceS_f l k h hk
    obtain ⟨p, hp⟩ : ∃ p, p = PSl m := ⟨_, rfl⟩
    have hpl : p.1.length ≤ 12 := by rw [hp]; exact PSl_len m
    refine ⟨l.length + 40, ?_⟩
    unfold laws_FnExactPartSlow.f
    rw [e, Option.bind_some, if_neg (by omega)]
    simp (disch := omega) only [t, sls_f, sli_f, ← hp, eqVoiceS_f, Option.bind_some, bne_self_eq_false, if_true]
    rw [laws_FnExactPartSlow.j0, if_neg (by decide)]
    simp (disch := omega) only [t, eqVoiceS_f, markV_f, Option.bind_some, if_true]
    rw [if_neg (by omega)]
    simp (disch := omega) only [bne_self_eq_false]
    rw [laws_FnExactPartSlow.j1, if_neg (by decide)]
    simp (disch := omega) only [markV_f, heldV_f, Option.bind_some]
    rw [if_neg (by omega)]
    simp (disch := omega) only [t, sli_f, ← hp, eqVoiceS_f, Option.bind_some, bne_self_eq_false, if_true]
    rw [laws_FnExactPartSlow.j2, if_neg (by decide)]
    simp (disch := omega) only [heldV_f, Option.bind_some]
    rw [if_neg (by omega), if_pos trivial]
  · rw [if_neg (by omega)] at e
    refine ⟨0, ?_⟩
    unfold laws_FnExactPartSlow.f
    rw [e]
    rfl

end Go.Proofs.Ytdddnfbedckgkaa.PureFnExactPartSlow
