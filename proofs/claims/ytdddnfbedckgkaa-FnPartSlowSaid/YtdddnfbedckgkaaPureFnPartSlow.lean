/- FnPartSlow: for every list of at most 1048576 bytes, the law of PartSlow holds of what the reference draws from it, and the list reads as before (longer lists the statement lets pass). No condition beyond the statement's own. -/
import Derived.Test.YtdddnfbedckgkaaGSx0
import Derived.Test.YtdddnfbedckgkaaGSx4
import Derived.Test.YtdddnfbedckgkaaGSx5
import Derived.Test.YtdddnfbedckgkaaGSx7
import Derived.Test.YtdddnfbedckgkaaGSx14
import Derived.Test.YtdddnfbedckgkaaGSx6
import Derived.Test.YtdddnfbedckgkaaGSx8
import Derived.Test.YtdddnfbedckgkaaGSx11
import Derived.Test.YtdddnfbedckgkaaGSx12
import Derived.Test.YtdddnfbedckgkaaGSx13
import Derived.Test.YtdddnfbedckgkaaGSx16
import Derived.Test.YtdddnfbedckgkaaGSx15
import Derived.Laws.Bits64
namespace Go.Proofs.Ytdddnfbedckgkaa.PureFnPartSlow
open Go.RowKit Go.Proofs.Ytdddnfbedckgkaa.GS Go.Proofs.YtdddnfbedckgkaaW.PrintWords Go.Proofs.YtdddnfbedckgkaaW.PrintLast Go.Proofs.YtdddnfbedckgkaaW.PrintMore 
set_option linter.unusedVariables false
set_option linter.unusedSimpArgs false
theorem w1 {i : Nat} (h : i < 4611686018427387904) : wrap64 ((i : Int) + 1) = ((i + 1 : Nat) : Int) := by
  unfold wrap64
  omega
theorem w0 {i : Int} (h : -9223372036854775808 ≤ i) (h' : i ≤ 9223372036854775807) : wrap64 i = i := by
  unfold wrap64
  omega
theorem rd_at (xs : List Int) (i : Nat) (h : i < xs.length) : rd xs (i : Int) = xs[i] := by
  simp [rd, List.getD_eq_getElem?_getD, h]
/-- A tone of the gamut. -/
def tv (a : Int) (b : Bool) : Bool := decide (0 ≤ a) && (decide (a ≤ 20) && (!b || decide (Int.tmod a 7 = 2)))
theorem tv_spec (a : Int) (b : Bool) : spec_ToneValid.f a b = some (tv a b) := by
  unfold spec_ToneValid.f spec_l6In.f spec_l1Letter.f tv
  by_cases h0 : a ≥ 0
  · rw [if_pos h0, decide_eq_true (show 0 ≤ a from h0)]
    by_cases h1 : a ≤ 20
    · simp only [h1, decide_true, Option.bind_some, if_true, Bool.true_and]
      cases b
      · rfl
      · simp
        rfl
    · simp [h1]
  · rw [if_neg h0, decide_eq_false (show ¬ 0 ≤ a from h0)]
    rfl
theorem tv_impl (a : Int) (b : Bool) : impl_Tone_valid.f a b = some (tv a b) := by
  unfold impl_Tone_valid.f tv
  by_cases h0 : a ≥ 0
  · rw [if_pos h0, decide_eq_true (show 0 ≤ a from h0)]
    by_cases h1 : a ≤ 20
    · rw [if_pos h1, decide_eq_true h1]
      cases b
      · rfl
      · simp
        rfl
    · rw [if_neg h1, decide_eq_false h1]
      rfl
  · rw [if_neg h0, decide_eq_false (show ¬ 0 ≤ a from h0)]
    rfl
theorem in_spec (a b c : Int) : spec_l6In.f a b c = some (decide (b ≤ a) && decide (a ≤ c)) := by
  unfold spec_l6In.f
  by_cases h0 : a ≥ b
  · rw [if_pos h0, decide_eq_true (show b ≤ a from h0)]; rfl
  · rw [if_neg h0, decide_eq_false (show ¬ b ≤ a from h0)]; rfl
def vv (v : S59) : Bool := tv v.f0.f0 v.f0.f1 && (decide (1 ≤ v.f1) && decide (v.f1 ≤ 3))
theorem rdv_at (xs : List S59) (i : Nat) (h : i < xs.length) : rd_T59 xs (i : Int) = xs[i] := by
  simp [rd_T59, List.getD_eq_getElem?_getD, h]
def sumB (l : List S59) : Int := (l.map (·.f1)).sum
theorem sumB_cons (v : S59) (l : List S59) : sumB (v :: l) = v.f1 + sumB l := by simp [sumB]
theorem vv_bd {v : S59} (h : vv v = true) : 1 ≤ v.f1 ∧ v.f1 ≤ 3 := by
  unfold vv at h
  simp only [Bool.and_eq_true, decide_eq_true_eq] at h
  exact h.2
theorem sumB_bd (l : List S59) (h : l.all vv = true) : 0 ≤ sumB l ∧ sumB l ≤ 3 * l.length := by
  induction l with
  | nil => simp [sumB]
  | cons v l ih =>
    simp only [List.all_cons, Bool.and_eq_true] at h
    have h1 := vv_bd h.1
    have h2 := ih h.2
    rw [sumB_cons, List.length_cons]
    omega
def PV (l : List S59) : Bool := decide (l.length ≤ 12) && (l.all vv && decide (sumB l ≤ 24))
theorem PV_len {l : List S59} (h : PV l = true) : l.length ≤ 12 := by
  unfold PV at h
  simp only [Bool.and_eq_true, decide_eq_true_eq] at h
  exact h.1
theorem PV_all {l : List S59} (h : PV l = true) : l.all vv = true := by
  unfold PV at h
  simp only [Bool.and_eq_true, decide_eq_true_eq] at h
  exact h.2.1
theorem PV_sum {l : List S59} (h : PV l = true) : sumB l ≤ 24 := by
  unfold PV at h
  simp only [Bool.and_eq_true, decide_eq_true_eq] at h
  exact h.2.2
theorem beats_l0 (l : List S59) (hl : l.length ≤ 12) (hv : l.all vv = true) : ∀ (d i k : Nat) (a : Int), i + d = l.length → d < k → 0 ≤ a → a ≤ 3 * i → spec_l8Beats.l0 k l a (i : Int) = some (a + sumB (l.drop i)) := by
  intro d
  induction d with
  | zero =>
    intro i k a hi hk h0 h1
    obtain ⟨k, rfl⟩ : ∃ m, k = m + 1 := ⟨k - 1, by omega⟩
    simp only [spec_l8Beats.l0]
    rw [if_neg (by omega), List.drop_eq_nil_of_le (by omega)]
    simp [sumB]
  | succ d ih =>
    intro i k a hi hk h0 h1
    obtain ⟨k, rfl⟩ : ∃ m, k = m + 1 := ⟨k - 1, by omega⟩
    have hx : i < l.length := by omega
    have hb := vv_bd (List.all_eq_true.1 hv _ (List.getElem_mem hx))
    simp only [spec_l8Beats.l0]
    rw [if_pos (by omega), if_pos (by omega), rdv_at l i hx, w1 (by omega), w0 (by omega) (by omega), ih (i + 1) k _ (by omega) (by omega) (by omega) (by omega), List.drop_eq_getElem_cons hx, sumB_cons]
    congr 1
    omega
theorem beats_f (l : List S59) (hl : l.length ≤ 12) (hv : l.all vv = true) (k : Nat) (hk : 13 ≤ k) : spec_l8Beats.f k l = some (sumB l) := by
  unfold spec_l8Beats.f
  simpa using beats_l0 l hl hv l.length 0 k 0 (by omega) (by omega) (by omega) (by omega)
theorem pvs_l0 (l : List S59) (hb : l.length < 4611686018427387904) : ∀ (d i k : Nat), i + d = l.length → d + 14 < k → (l.take i).all vv = true → spec_PartValid.l0 k l (i : Int) = some (PV l) := by
  intro d
  induction d with
  | zero =>
    intro i k hi hk hv
    obtain ⟨k, rfl⟩ : ∃ m, k = m + 1 := ⟨k - 1, by omega⟩
    rw [List.take_of_length_le (by omega)] at hv
    simp only [spec_PartValid.l0]
    rw [if_neg (by omega)]
    unfold PV
    rw [hv]
    by_cases hl : l.length ≤ 12
    · rw [if_pos (by omega), beats_f l hl hv k (by omega), decide_eq_true hl]
      rfl
    · rw [if_neg (by omega), decide_eq_false hl]
      rfl
  | succ d ih =>
    intro i k hi hk hv
    obtain ⟨k, rfl⟩ : ∃ m, k = m + 1 := ⟨k - 1, by omega⟩
    have hx : i < l.length := by omega
    simp only [spec_PartValid.l0]
    rw [if_pos (by omega), if_pos (by omega), rdv_at l i hx, tv_spec, in_spec]
    simp only [Option.bind_some]
    by_cases hvi : vv l[i] = true
    · have hvi2 := hvi
      unfold vv at hvi2
      simp only [Bool.and_eq_true] at hvi2
      rw [if_pos hvi2.1, if_pos (by simpa using hvi2.2), w1 (by omega)]
      refine ih (i + 1) k (by omega) (by omega) ?_
      rw [List.take_succ_eq_append_getElem hx, List.all_append, hv]
      simp [hvi]
    · have hF : PV l = false := by
        have : l.all vv = false := by
          rw [Bool.eq_false_iff]
          intro h
          exact hvi (List.all_eq_true.1 h _ (List.getElem_mem hx))
        unfold PV
        rw [this]
        simp
      rw [hF]
      unfold vv at hvi
      by_cases h1 : tv l[i].f0.f0 l[i].f0.f1 = true
      · rw [if_pos h1]
        rw [h1, Bool.true_and] at hvi
        rw [if_neg hvi]
      · rw [if_neg h1]
theorem pvs_f (l : List S59) (hb : l.length ≤ 1048576) (k : Nat) (hk : l.length + 15 < k) : spec_PartValid.f k l = some (PV l) := by
  unfold spec_PartValid.f
  simpa using pvs_l0 l (by omega) l.length 0 k (by omega) (by omega) (by simp)
theorem pvi_l0 (l : List S59) (hl : l.length ≤ 12) : ∀ (d i k : Nat) (a : Int), i + d = l.length → d < k → 0 ≤ a → a ≤ 3 * i → impl_PartValid.l0 k a l (l.length : Int) (i : Int) = some ((l.drop i).all vv && decide (a + sumB (l.drop i) ≤ 24)) := by
  intro d
  induction d with
  | zero =>
    intro i k a hi hk h0 h1
    obtain ⟨k, rfl⟩ : ∃ m, k = m + 1 := ⟨k - 1, by omega⟩
    simp only [impl_PartValid.l0]
    rw [if_neg (by omega), List.drop_eq_nil_of_le (by omega)]
    simp [sumB]
  | succ d ih =>
    intro i k a hi hk h0 h1
    obtain ⟨k, rfl⟩ : ∃ m, k = m + 1 := ⟨k - 1, by omega⟩
    have hx : i < l.length := by omega
    simp only [impl_PartValid.l0]
    rw [if_pos (by omega), if_pos (by omega), if_pos (by omega), rdv_at l i hx, tv_impl, List.drop_eq_getElem_cons hx, sumB_cons, List.all_cons]
    simp only [Option.bind_some]
    by_cases ht : tv l[i].f0.f0 l[i].f0.f1 = true
    · rw [if_pos ht]
      by_cases h3 : l[i].f1 < 1
      · rw [if_pos h3]
        have : vv l[i] = false := by unfold vv; rw [decide_eq_false (show ¬ 1 ≤ l[i].f1 by omega)]; simp
        rw [this]
        rfl
      · rw [if_neg h3]
        by_cases h4 : l[i].f1 > 3
        · rw [if_pos h4]
          have : vv l[i] = false := by unfold vv; rw [decide_eq_false (show ¬ l[i].f1 ≤ 3 by omega)]; simp
          rw [this]
          rfl
        · have : vv l[i] = true := by unfold vv; rw [ht, decide_eq_true (show 1 ≤ l[i].f1 by omega), decide_eq_true (show l[i].f1 ≤ 3 by omega)]; rfl
          rw [if_neg h4, w1 (by omega), w0 (by omega) (by omega), ih (i + 1) k _ (by omega) (by omega) (by omega) (by omega), this, Bool.true_and, Int.add_assoc]
    · rw [if_neg ht]
      have : vv l[i] = false := by unfold vv; rw [Bool.eq_false_iff.mpr ht]; rfl
      rw [this]
      rfl
theorem pvi_f (l : List S59) (k : Nat) (hk : 13 ≤ k) : impl_PartValid.f k l = some (PV l) := by
  unfold impl_PartValid.f PV
  by_cases hl : l.length ≤ 12
  · rw [if_neg (by omega), decide_eq_true hl, Bool.true_and]
    simpa using pvi_l0 l hl l.length 0 k 0 (by omega) (by omega) (by omega) (by omega)
  · rw [if_pos (by omega), decide_eq_false hl]
    rfl

theorem expand_cons (v : S59) (l : List S59) : expand (v :: l) = List.replicate v.f1.toNat v.f0 ++ expand l := by simp [expand]
theorem expand_sum (l : List S59) (h : l.all vv = true) : ((expand l).length : Int) = sumB l := by
  induction l with
  | nil => rfl
  | cons v l ih =>
    simp only [List.all_cons, Bool.and_eq_true] at h
    have h1 := vv_bd h.1
    have h2 := ih h.2
    rw [expand_cons, sumB_cons, List.length_append, List.length_replicate]
    omega
def PB (l : List S59) : Int := if PV l = true then sumB l else -1
theorem pbi_f (l : List S59) (k : Nat) (hk : 13 ≤ k) : impl_PartBeats.f k l = some (PB l) := by
  unfold impl_PartBeats.f PB
  rw [pvi_f l k hk]
  simp only [Option.bind_some]
  by_cases h : PV l = true
  · rw [if_pos h, if_pos h, expand_sum l (PV_all h)]
  · rw [if_neg h, if_neg h]
def PA (l : List S59) (a : Int) : Int × Bool × Bool := if PV l = true then (if 0 ≤ a then (if a < ((expand l).length : Int) then (((expand l).getD a.toNat z48).f0, ((expand l).getD a.toNat z48).f1, true) else (0, false, false)) else (0, false, false)) else (0, false, false)
theorem pai_f (l : List S59) (a : Int) (k : Nat) (hk : 13 ≤ k) : impl_PartAt.f k l a = some (PA l a) := by
  unfold impl_PartAt.f PA
  rw [pvi_f l k hk]
  rfl
def add1 (acc : List S59) (v : S59) : List S59 := acc ++ [(⟨(⟨v.f0.f0, v.f0.f1⟩ : S48), v.f1⟩ : S59)]
def lastV (acc : List S59) : S59 := rd_T59 acc ((acc.length - 1 : Nat) : Int)
/-- A voice joins the slower part. -/
def slowStep (acc : List S59) (v : S59) : List S59 :=
  if acc.length = 0 then add1 acc v
  else if ((lastV acc).f0.f0 == v.f0.f0 && ((lastV acc).f0.f1 == v.f0.f1)) = true then
    (if (lastV acc).f1 + v.f1 ≤ 3 then acc.set (acc.length - 1) (⟨(⟨(lastV acc).f0.f0, (lastV acc).f0.f1⟩ : S48), (lastV acc).f1 + v.f1⟩ : S59) else add1 acc v)
  else add1 acc v
def bts (l : List S59) : Prop := ∀ v ∈ l, 1 ≤ v.f1 ∧ v.f1 ≤ 3
theorem lastV_mem {acc : List S59} (h : ¬ acc.length = 0) : lastV acc ∈ acc := by
  unfold lastV
  rw [rdv_at acc (acc.length - 1) (by omega)]
  exact List.getElem_mem _
theorem slowStep_len (acc : List S59) (v : S59) : (slowStep acc v).length ≤ acc.length + 1 := by
  unfold slowStep add1
  (repeat' split) <;> simp
theorem slowStep_bts {acc : List S59} {v : S59} (h : bts acc) (hv : 1 ≤ v.f1 ∧ v.f1 ≤ 3) : bts (slowStep acc v) := by
  have ha : bts (add1 acc v) := by
    intro x hx
    unfold add1 at hx
    rcases List.mem_append.1 hx with hx | hx
    · exact h x hx
    · rw [List.mem_singleton.1 hx]
      exact hv
  unfold slowStep
  split
  · exact ha
  · rename_i hn
    split
    · split
      · rename_i h3
        intro x hx
        rcases List.mem_or_eq_of_mem_set hx with hx | rfl
        · exact h x hx
        · have := h _ (lastV_mem hn)
          exact ⟨by show 1 ≤ (lastV acc).f1 + v.f1; omega, h3⟩
      · exact ha
    · exact ha
theorem slows_l0 (l : List S59) (hl : l.length ≤ 12) (hv : bts l) : ∀ (d i k : Nat) (acc : List S59), i + d = l.length → acc.length ≤ i → bts acc → d < k → spec_PartSlow.l0 k l acc (i : Int) = some ((l.drop i).foldl slowStep acc, true) := by
  intro d
  induction d with
  | zero =>
    intro i k acc hi ha hb hk
    obtain ⟨k, rfl⟩ : ∃ m, k = m + 1 := ⟨k - 1, by omega⟩
    simp only [spec_PartSlow.l0]
    rw [if_neg (by omega), List.drop_eq_nil_of_le (by omega)]
    rfl
  | succ d ih =>
    intro i k acc hi ha hb hk
    obtain ⟨k, rfl⟩ : ∃ m, k = m + 1 := ⟨k - 1, by omega⟩
    have hx : i < l.length := by omega
    have hvi := hv l[i] (List.getElem_mem hx)
    have hn := ih (i + 1) k (slowStep acc l[i]) (by omega) (by have := slowStep_len acc l[i]; omega) (slowStep_bts hb hvi) (by omega)
    rw [List.drop_eq_getElem_cons hx, List.foldl_cons, ← hn]
    simp only [spec_PartSlow.l0]
    rw [if_pos (by omega), rdv_at l i hx, w1 (by omega)]
    by_cases h0 : acc.length = 0
    · have e : wrap64 ((acc.length : Int) - 1) = -1 := by rw [w0 (by omega) (by omega)]; omega
      rw [e, if_neg (by omega), if_pos (by omega), if_pos (by omega)]
      unfold slowStep
      rw [if_pos h0]
      rfl
    · have e : wrap64 ((acc.length : Int) - 1) = ((acc.length - 1 : Nat) : Int) := by rw [w0 (by omega) (by omega)]; omega
      have hL := hb _ (lastV_mem h0)
      rw [e, if_pos (by omega), if_pos (by omega), if_pos (by omega), if_pos (by omega)]
      rw [show rd_T59 acc ((acc.length - 1 : Nat) : Int) = lastV acc from rfl, w0 (i := (lastV acc).f1 + l[i].f1) (by omega) (by omega)]
      unfold slowStep
      rw [if_neg h0]
      by_cases h1 : ((lastV acc).f0.f0 == l[i].f0.f0 && ((lastV acc).f0.f1 == l[i].f0.f1)) = true
      · rw [if_pos h1, if_pos h1]
        by_cases h2 : (lastV acc).f1 + l[i].f1 ≤ 3
        · rw [if_pos h2, if_pos h2, Int.toNat_natCast]
        · rw [if_neg h2, if_neg h2, if_pos (by omega)]
          rfl
      · rw [if_neg h1, if_neg h1, if_pos (by omega)]
        rfl
theorem slowi_l0 (l : List S59) (hl : l.length ≤ 12) (hv : bts l) : ∀ (d i k : Nat) (acc : List S59), i + d = l.length → acc.length ≤ i → bts acc → d < k → impl_PartSlow.l0 k acc l (l.length : Int) (i : Int) = some ((l.drop i).foldl slowStep acc, true) := by
  intro d
  induction d with
  | zero =>
    intro i k acc hi ha hb hk
    obtain ⟨k, rfl⟩ : ∃ m, k = m + 1 := ⟨k - 1, by omega⟩
    simp only [impl_PartSlow.l0]
    rw [if_neg (by omega), List.drop_eq_nil_of_le (by omega)]
    rfl
  | succ d ih =>
    intro i k acc hi ha hb hk
    obtain ⟨k, rfl⟩ : ∃ m, k = m + 1 := ⟨k - 1, by omega⟩
    have hx : i < l.length := by omega
    have hvi := hv l[i] (List.getElem_mem hx)
    have hn := ih (i + 1) k (slowStep acc l[i]) (by omega) (by have := slowStep_len acc l[i]; omega) (slowStep_bts hb hvi) (by omega)
    rw [List.drop_eq_getElem_cons hx, List.foldl_cons, ← hn]
    simp only [impl_PartSlow.l0]
    rw [if_pos (by omega), if_pos (by omega), if_pos (by omega), rdv_at l i hx, w1 (by omega)]
    by_cases h0 : acc.length = 0
    · have e : wrap64 ((acc.length : Int) - 1) = -1 := by rw [w0 (by omega) (by omega)]; omega
      rw [e, if_neg (by omega), if_pos (by omega)]
      unfold slowStep
      rw [if_pos h0]
      rfl
    · have e : wrap64 ((acc.length : Int) - 1) = ((acc.length - 1 : Nat) : Int) := by rw [w0 (by omega) (by omega)]; omega
      have hL := hb _ (lastV_mem h0)
      rw [e, if_pos (by omega), if_pos (by omega), if_pos (by omega)]
      rw [show rd_T59 acc ((acc.length - 1 : Nat) : Int) = lastV acc from rfl, w0 (i := (lastV acc).f1 + l[i].f1) (by omega) (by omega)]
      unfold slowStep
      rw [if_neg h0]
      by_cases h1 : ((lastV acc).f0.f0 == l[i].f0.f0 && ((lastV acc).f0.f1 == l[i].f0.f1)) = true
      · rw [if_pos h1, if_pos h1]
        by_cases h2 : (lastV acc).f1 + l[i].f1 ≤ 3
        · rw [if_pos h2, if_pos h2, Int.toNat_natCast]
        · rw [if_neg h2, if_neg h2, if_pos (by omega)]
          rfl
      · rw [if_neg h1, if_neg h1, if_pos (by omega)]
        rfl
/-- The slower part. -/
def PSl (l : List S59) : List S59 × Bool := if PV l = true then (l.foldl slowStep [], true) else ([], false)
theorem PV_bts {l : List S59} (h : PV l = true) : bts l := fun v hv => vv_bd (List.all_eq_true.1 (PV_all h) v hv)
theorem sls_f (l : List S59) (hb : l.length ≤ 1048576) (k : Nat) (hk : l.length + 15 < k) : spec_PartSlow.f k l = some (PSl l) := by
  unfold spec_PartSlow.f PSl
  simp only [Option.bind_some]
  rw [pvs_f l hb k hk, Option.bind_some]
  by_cases h : PV l = true
  · rw [if_pos h, if_pos h]
    simpa using slows_l0 l (PV_len h) (PV_bts h) l.length 0 k [] (by omega) (by simp) (by intro v hv; cases hv) (by omega)
  · rw [if_neg h, if_neg h]
theorem sli_f (l : List S59) (k : Nat) (hk : 13 ≤ k) : impl_PartSlow.f k l = some (PSl l) := by
  unfold impl_PartSlow.f PSl
  rw [pvi_f l k hk, Option.bind_some]
  by_cases h : PV l = true
  · rw [if_pos h, if_pos h]
    have := PV_len h
    simpa using slowi_l0 l (PV_len h) (PV_bts h) l.length 0 k [] (by omega) (by simp) (by intro v hv; cases hv) (by omega)
  · rw [if_neg h, if_neg h]
theorem fold_len (l : List S59) : ∀ acc : List S59, (l.foldl slowStep acc).length ≤ acc.length + l.length := by
  induction l with
  | nil => intro acc; simp
  | cons v l ih =>
    intro acc
    have h1 := ih (slowStep acc v)
    have h2 := slowStep_len acc v
    simp only [List.foldl_cons, List.length_cons]
    omega
theorem PSl_len (l : List S59) : (PSl l).1.length ≤ 12 := by
  unfold PSl
  by_cases h : PV l = true
  · rw [if_pos h]
    have := fold_len l []
    have := PV_len h
    simp only [List.length_nil] at *
    omega
  · rw [if_neg h]
    simp
theorem acc_split {acc : List S59} (h : ¬ acc.length = 0) : ∃ init, acc = init ++ [lastV acc] ∧ acc.length - 1 = init.length := by
  have hne : acc ≠ [] := fun e => h (by rw [e]; rfl)
  refine ⟨acc.dropLast, ?_, by simp⟩
  have e : lastV acc = acc.getLast hne := by
    unfold lastV
    rw [rdv_at acc (acc.length - 1) (by omega), List.getLast_eq_getElem]
  rw [e]
  exact (List.dropLast_concat_getLast hne).symm
theorem expand_app (a b : List S59) : expand (a ++ b) = expand a ++ expand b := by simp [expand]
theorem expand_one (v : S59) : expand [v] = List.replicate v.f1.toNat v.f0 := by simp [expand]
theorem sumB_app (a b : List S59) : sumB (a ++ b) = sumB a + sumB b := by simp [sumB]
theorem sumB_one (v : S59) : sumB [v] = v.f1 := by simp [sumB]
theorem set_last (init : List S59) (u w : S59) : (init ++ [u]).set init.length w = init ++ [w] := by simp
structure Slow (acc : List S59) (s : Int) (e : List S48) : Prop where
  vv : acc.all vv = true
  sum : sumB acc = s
  exp : expand acc = e
  nm : ∀ (i : Nat) (h : i + 1 < acc.length), ¬ (acc[i].f0.f0 = acc[i + 1].f0.f0 ∧ acc[i].f0.f1 = acc[i + 1].f0.f1 ∧ acc[i].f1 + acc[i + 1].f1 ≤ 3)
theorem slow_add {acc : List S59} {s : Int} {e : List S48} (h : Slow acc s e) (v : S59) (hv : vv v = true)
    (hm : ¬ acc.length = 0 → ¬ ((lastV acc).f0.f0 = v.f0.f0 ∧ (lastV acc).f0.f1 = v.f0.f1 ∧ (lastV acc).f1 + v.f1 ≤ 3)) : Slow (add1 acc v) (s + v.f1) (e ++ List.replicate v.f1.toNat v.f0) := by
  unfold add1
  rw [show (⟨(⟨v.f0.f0, v.f0.f1⟩ : S48), v.f1⟩ : S59) = v from rfl]
  refine ⟨by rw [List.all_append, h.vv]; simp [hv], by rw [sumB_app, h.sum, sumB_one], by rw [expand_app, h.exp, expand_one], fun i hi => ?_⟩
  simp only [List.length_append, List.length_singleton] at hi
  by_cases hl : i + 1 < acc.length
  · rw [List.getElem_append_left (by omega), List.getElem_append_left hl]
    exact h.nm i hl
  · have e1 : i + 1 = acc.length := by omega
    have hn : ¬ acc.length = 0 := by omega
    have e2 : lastV acc = acc[i]'(by omega) := by
      unfold lastV
      rw [rdv_at acc (acc.length - 1) (by omega)]
      congr 1
      omega
    have := hm hn
    rw [e2] at this
    rw [List.getElem_append_left (by omega), List.getElem_append_right (by omega)]
    simpa [e1] using this
theorem slow_step {acc : List S59} {s : Int} {e : List S48} (h : Slow acc s e) (v : S59) (hv : vv v = true) : Slow (slowStep acc v) (s + v.f1) (e ++ List.replicate v.f1.toNat v.f0) := by
  have hvb := vv_bd hv
  unfold slowStep
  by_cases h0 : acc.length = 0
  · rw [if_pos h0]
    exact slow_add h v hv (fun hn => absurd h0 hn)
  · rw [if_neg h0]
    by_cases h1 : ((lastV acc).f0.f0 == v.f0.f0 && ((lastV acc).f0.f1 == v.f0.f1)) = true
    · rw [if_pos h1]
      simp only [Bool.and_eq_true, beq_iff_eq] at h1
      by_cases h2 : (lastV acc).f1 + v.f1 ≤ 3
      · rw [if_pos h2]
        have hu : vv (lastV acc) = true := List.all_eq_true.1 h.vv _ (lastV_mem h0)
        have hub := vv_bd hu
        obtain ⟨init, ei, en⟩ := acc_split h0
        have hv1 := h.vv
        have hs1 := h.sum
        have he1 := h.exp
        have hset0 : ∀ w : S59, acc.set (acc.length - 1) w = init ++ [w] := fun w => by
          rw [en]
          conv => lhs; rw [ei]
          rw [set_last]
        have hset : acc.set (acc.length - 1) (⟨(⟨(lastV acc).f0.f0, (lastV acc).f0.f1⟩ : S48), (lastV acc).f1 + v.f1⟩ : S59) = init ++ [(⟨(lastV acc).f0, (lastV acc).f1 + v.f1⟩ : S59)] := hset0 _
        have hvf : v.f0 = (lastV acc).f0 := by
          have e1 := h1.1
          have e2 := h1.2
          cases hx : v.f0 with
          | mk a b =>
            cases hy : (lastV acc).f0 with
            | mk c d =>
              rw [hx, hy] at e1 e2
              simp only at e1 e2
              rw [e1, e2]
        rw [ei] at hv1 hs1 he1
        rw [List.all_append, Bool.and_eq_true] at hv1
        rw [sumB_app, sumB_one] at hs1
        rw [expand_app, expand_one] at he1
        refine ⟨?_, ?_, ?_, ?_⟩
        · rw [hset, List.all_append, hv1.1]
          have : vv (⟨(lastV acc).f0, (lastV acc).f1 + v.f1⟩ : S59) = true := by
            unfold vv at hu ⊢
            simp only [Bool.and_eq_true, decide_eq_true_eq] at hu ⊢
            exact ⟨hu.1, by omega, h2⟩
          simp [this]
        · rw [hset, sumB_app, sumB_one]
          show sumB init + ((lastV acc).f1 + v.f1) = s + v.f1
          omega
        · rw [hset, expand_app, expand_one, ← he1, List.append_assoc, hvf, List.replicate_append_replicate]
          show expand init ++ List.replicate ((lastV acc).f1 + v.f1).toNat (lastV acc).f0 = _
          rw [show ((lastV acc).f1 + v.f1).toNat = (lastV acc).f1.toNat + v.f1.toNat by omega]
        · intro i hi
          simp only [List.length_set] at hi
          have hn := h.nm i hi
          by_cases hl : i + 1 = acc.length - 1
          · have e2 : lastV acc = acc[i + 1] := by
              unfold lastV
              rw [rdv_at acc (acc.length - 1) (by omega)]
              congr 1
              omega
            rw [List.getElem_set_ne (by omega), List.getElem_set]
            rw [if_pos (by omega)]
            show ¬ (acc[i].f0.f0 = (lastV acc).f0.f0 ∧ acc[i].f0.f1 = (lastV acc).f0.f1 ∧ acc[i].f1 + ((lastV acc).f1 + v.f1) ≤ 3)
            rw [e2] at hub ⊢
            intro hc
            exact hn ⟨hc.1, hc.2.1, by have := hc.2.2; omega⟩
          · rw [List.getElem_set_ne (by omega), List.getElem_set_ne (by omega)]
            exact hn
      · rw [if_neg h2]
        exact slow_add h v hv (fun _ hc => h2 hc.2.2)
    · rw [if_neg h1]
      refine slow_add h v hv (fun _ hc => h1 ?_)
      simp only [Bool.and_eq_true, beq_iff_eq]
      exact ⟨hc.1, hc.2.1⟩
theorem slow_fold (l : List S59) (hv : l.all vv = true) : ∀ (acc : List S59) (s : Int) (e : List S48), Slow acc s e → Slow (l.foldl slowStep acc) (s + sumB l) (e ++ expand l) := by
  induction l with
  | nil =>
    intro acc s e h
    have e1 : sumB ([] : List S59) = 0 := rfl
    have e2 : expand ([] : List S59) = [] := rfl
    rw [e1, e2, Int.add_zero, List.append_nil]
    exact h
  | cons v l ih =>
    intro acc s e h
    rw [List.all_cons, Bool.and_eq_true] at hv
    have := ih hv.2 _ _ _ (slow_step h v hv.1)
    rw [List.foldl_cons, sumB_cons, expand_cons, ← Int.add_assoc, ← List.append_assoc]
    exact this
theorem slow_all {l : List S59} (h : PV l = true) : PV (l.foldl slowStep []) = true ∧ Slow (l.foldl slowStep []) (sumB l) (expand l) := by
  have h0 : Slow [] 0 [] := ⟨rfl, rfl, rfl, fun i hi => absurd hi (by simp)⟩
  have hs := slow_fold l (PV_all h) [] 0 [] h0
  rw [Int.zero_add, List.nil_append] at hs
  refine ⟨?_, hs⟩
  have hl := fold_len l []
  have hl2 := PV_len h
  have hs2 := PV_sum h
  unfold PV
  rw [hs.vv, hs.sum, decide_eq_true (show (l.foldl slowStep []).length ≤ 12 by simp only [List.length_nil] at hl; omega), decide_eq_true hs2]
  rfl
theorem xor_nn (a b : Int) (ha : 0 ≤ a) (ha' : a < 4611686018427387904) (hb : 0 ≤ b) (hb' : b < 4611686018427387904) : 0 ≤ Go.bits .xor .i64 a b := by
  obtain ⟨x, rfl⟩ := Int.eq_ofNat_of_zero_le ha
  obtain ⟨y, rfl⟩ := Int.eq_ofNat_of_zero_le hb
  have hx : x ^^^ y < 2 ^ 62 := Nat.xor_lt_two_pow (by omega) (by omega)
  have h1 : (BitVec.ofInt 64 (x : Int)).toNat = x := by
    rw [BitVec.ofInt_natCast, BitVec.toNat_ofNat]; exact Nat.mod_eq_of_lt (by omega)
  have h2 : (BitVec.ofInt 64 (y : Int)).toNat = y := by
    rw [BitVec.ofInt_natCast, BitVec.toNat_ofNat]; exact Nat.mod_eq_of_lt (by omega)
  have e : Go.bits .xor .i64 (x : Int) (y : Int) = IntKind.i64.wrap (((x ^^^ y : Nat)) : Int) := by
    show IntKind.i64.wrap ((BitVec.ofInt 64 (x : Int) ^^^ BitVec.ofInt 64 (y : Int)).toNat : Int) = _
    rw [BitVec.toNat_xor, h1, h2]
  rw [e, IntWalk.i64_in _ (by omega)]
  omega
/-- A list of bytes. -/
def Bytes (l : List Int) : Prop := ∀ n ∈ l, 0 ≤ n ∧ n ≤ 255
theorem rd_byte {l : List Int} (h : Bytes l) (i : Int) (h0 : 0 ≤ i) (h1 : i < (l.length : Int)) : 0 ≤ rd l i ∧ rd l i ≤ 255 := by
  obtain ⟨n, rfl⟩ := Int.eq_ofNat_of_zero_le h0
  have hn : n < l.length := by omega
  rw [rd_at l n hn]
  exact h _ (List.getElem_mem hn)
theorem tm_bd (a n : Int) (ha : 0 ≤ a) (hn : 0 < n) : 0 ≤ Int.tmod a n ∧ Int.tmod a n < n := by
  rw [Int.tmod_eq_emod_of_nonneg ha]
  exact ⟨Int.emod_nonneg _ (by omega), Int.emod_lt_of_pos _ hn⟩
theorem td_bd (a n : Int) (ha : 0 ≤ a) (hn : 0 < n) : 0 ≤ Int.tdiv a n ∧ Int.tdiv a n ≤ a := by
  rw [Int.tdiv_eq_ediv_of_nonneg ha]
  exact ⟨Int.ediv_nonneg ha (by omega), Int.ediv_le_self _ ha⟩
theorem pick_some (l : List Int) (hl : Bytes l) (hn : l.length ≤ 2000) (p n : Int) (hp : 0 ≤ p) (hp' : p ≤ 1000000) (h1 : 1 ≤ n) (h2 : n ≤ 1000000) :
    ∃ v, 0 ≤ v ∧ v < n ∧ ∀ k, spec_l6Rd_pick.f (k + 1) l p n = some (v, p + 1) := by
  unfold spec_l6Rd_pick.f
  simp only [spec_l6Rd_pick.j0]
  rw [if_neg (show ¬ n < 1 by omega), w0 (i := p + 1) (by omega) (by omega), show p + 1 - 1 = p by omega, w0 (i := p) (by omega) (by omega)]
  by_cases hl0 : l.length = 0
  · refine ⟨0, by omega, by omega, fun k => ?_⟩
    rw [if_pos (show ((l.length : Int) == 0) = true by rw [hl0]; rfl)]
  · rw [if_neg (show ¬ (((l.length : Int) == 0) = true) from fun h => hl0 (by have := beq_iff_eq.1 h; omega))]
    have hlp : (0 : Int) < (l.length : Int) := by omega
    by_cases hpl : p < (l.length : Int)
    · obtain ⟨b0, b1⟩ := rd_byte hl p hp hpl
      rw [if_pos hpl, if_pos hp, if_neg (show ¬ n = 0 by omega), w0 (i := rd l p) (by omega) (by omega)]
      obtain ⟨t0, t1⟩ := tm_bd (rd l p) n b0 (by omega)
      exact ⟨_, t0, t1, fun _ => rfl⟩
    · rw [if_neg hpl, if_neg (show ¬ (l.length : Int) = 0 by omega), w0 (i := p * 7) (by omega) (by omega), w0 (i := p * 7 + 3) (by omega) (by omega)]
      obtain ⟨i0, i1⟩ := tm_bd p (l.length : Int) hp hlp
      obtain ⟨j0, j1⟩ := tm_bd (p * 7 + 3) (l.length : Int) (by omega) hlp
      obtain ⟨q0, q1⟩ := td_bd p (l.length : Int) hp hlp
      rw [if_pos i0, if_pos i1, if_pos j0, if_pos j1, if_neg (show ¬ n = 0 by omega)]
      obtain ⟨a0, a1⟩ := rd_byte hl _ i0 i1
      obtain ⟨b0, b1⟩ := rd_byte hl _ j0 j1
      generalize rd l (Int.tmod p (l.length : Int)) = a at a0 a1 ⊢
      generalize rd l (Int.tmod (p * 7 + 3) (l.length : Int)) = b at b0 b1 ⊢
      generalize Int.tdiv p (l.length : Int) = q at q0 q1 ⊢
      simp (disch := omega) only [w0]
      have x0 : 0 ≤ a * 131 + b * 1117 + p * 29 + q * 53 := by omega
      obtain ⟨d0, d1⟩ := td_bd (a * 131 + b * 1117 + p * 29 + q * 53) 64 x0 (by omega)
      rw [w0 (i := Int.tdiv (a * 131 + b * 1117 + p * 29 + q * 53) 64) (by omega) (by omega)]
      obtain ⟨t0, t1⟩ := tm_bd (Go.bits .xor .i64 (a * 131 + b * 1117 + p * 29 + q * 53) (Int.tdiv (a * 131 + b * 1117 + p * 29 + q * 53) 64)) n (xor_nn _ _ x0 (by omega) d0 (by omega)) (by omega)
      exact ⟨_, t0, t1, fun _ => rfl⟩
/-- What a reader's pick answers. -/
def pk (l : List Int) (p n : Int) : Int := ((spec_l6Rd_pick.f 1 l p n).getD (0, 0)).1
structure Rdr (l : List Int) : Prop where
  bytes : Bytes l
  len : l.length ≤ 2000
theorem pk_f {l : List Int} (h : Rdr l) (p n : Int) (k : Nat) (hp : 0 ≤ p) (hp' : p ≤ 1000000) (h1 : 1 ≤ n) (h2 : n ≤ 1000000) (hk : 1 ≤ k) : spec_l6Rd_pick.f k l p n = some (pk l p n, p + 1) := by
  obtain ⟨v, _, _, hv⟩ := pick_some l h.bytes h.len p n hp hp' h1 h2
  unfold pk
  rw [hv 0]
  obtain ⟨k, rfl⟩ : ∃ m, k = m + 1 := ⟨k - 1, by omega⟩
  rw [hv k]
  rfl
theorem pk_bd {l : List Int} (h : Rdr l) (p n : Int) (hp : 0 ≤ p) (hp' : p ≤ 1000000) (h1 : 1 ≤ n) (h2 : n ≤ 1000000) : 0 ≤ pk l p n ∧ pk l p n < n := by
  obtain ⟨v, h3, h4, hv⟩ := pick_some l h.bytes h.len p n hp hp' h1 h2
  unfold pk
  rw [hv 0]
  exact ⟨h3, h4⟩
theorem open_f (l : List Int) (hl : Bytes l) : ∃ s, spec_l6Open.f l = some (s, 0) ∧ Rdr s := by
  unfold spec_l6Open.f
  by_cases h : (l.length : Int) > 2000
  · rw [if_pos h, if_pos (by omega)]
    exact ⟨_, rfl, ⟨fun n hn => hl n (List.mem_of_mem_take hn), by simp; omega⟩⟩
  · rw [if_neg h]
    exact ⟨_, rfl, ⟨hl, by omega⟩⟩
theorem bytes_of {l : List Int} (h : ∀ n ∈ l, (Lit.int .u8 n).wf = true) : Bytes l := fun n hn => by
  have := h n hn
  simp [Lit.wf, IntKind.min, IntKind.max, IntKind.signed, IntKind.bits] at this
  omega
theorem letter_f (a : Int) : spec_l1Letter.f a = some (Int.tmod a 7) := rfl
theorem clamp_bd (a b x : Int) (h : a ≤ b) : a ≤ mx a (mn b x) ∧ mx a (mn b x) ≤ b := by
  unfold mx mn
  constructor <;> (repeat' split) <;> omega
theorem part_end (l : List Int) (h : Rdr l) (acc : List S59) (x1 x6 p : Int) (ha : acc.length ≤ 12) (hp : 0 ≤ p) (hp' : p ≤ 100000) :
    ∃ out q, out.length ≤ 12 ∧ p ≤ q ∧ q ≤ p + 2 ∧ ∀ k, 2 ≤ k → spec_l92Part.j1 k x1 acc x6 false l p = some (out, q) := by
  by_cases h0 : acc.length = 0
  · refine ⟨acc, p, ha, by omega, by omega, fun k hk => ?_⟩
    obtain ⟨k, rfl⟩ : ∃ m, k = m + 1 := ⟨k - 1, by omega⟩
    rw [spec_l92Part.j1, if_neg (by decide), if_neg (by omega)]
  · by_cases h1 : pk l p 50 = 0
    · obtain ⟨v0, v1⟩ := pk_bd h (p + 1) 2 (by omega) (by omega) (by omega) (by omega)
      refine ⟨acc.set (0 : Int).toNat ⟨⟨(rd_T59 acc 0).f0.f0, (rd_T59 acc 0).f0.f1⟩, rd ([0, 4] : List Int) (pk l (p + 1) 2)⟩, p + 1 + 1, by simp; omega, by omega, by omega, fun k hk => ?_⟩
      obtain ⟨k, rfl⟩ : ∃ m, k = m + 1 := ⟨k - 1, by omega⟩
      rw [spec_l92Part.j1, if_neg (by decide), if_pos (by omega), pk_f h p 50 k (by omega) (by omega) (by omega) (by omega) (by omega)]
      simp only [Option.bind_some]
      rw [if_pos h1, pk_f h (p + 1) 2 k (by omega) (by omega) (by omega) (by omega) (by omega)]
      simp only [Option.bind_some]
      rw [if_pos v0, if_pos (by simpa using v1), if_pos (by omega)]
    · by_cases h2 : pk l p 50 = 1
      · refine ⟨acc.set (0 : Int).toNat ⟨⟨21, (rd_T59 acc 0).f0.f1⟩, (rd_T59 acc 0).f1⟩, p + 1, by simp; omega, by omega, by omega, fun k hk => ?_⟩
        obtain ⟨k, rfl⟩ : ∃ m, k = m + 1 := ⟨k - 1, by omega⟩
        rw [spec_l92Part.j1, if_neg (by decide), if_pos (by omega), pk_f h p 50 k (by omega) (by omega) (by omega) (by omega) (by omega)]
        simp only [Option.bind_some]
        rw [if_neg h1, if_pos h2, if_pos (by omega)]
      · refine ⟨acc, p + 1, ha, by omega, by omega, fun k hk => ?_⟩
        obtain ⟨k, rfl⟩ : ∃ m, k = m + 1 := ⟨k - 1, by omega⟩
        rw [spec_l92Part.j1, if_neg (by decide), if_pos (by omega), pk_f h p 50 k (by omega) (by omega) (by omega) (by omega) (by omega)]
        simp only [Option.bind_some]
        rw [if_neg h1, if_neg h2]
theorem part_l0 (l : List Int) (h : Rdr l) : ∀ (d : Nat) (acc : List S59) (x1 x6 p : Int), acc.length + d = 12 → 0 ≤ x1 → x1 ≤ 1000 → 0 ≤ x6 → x6 ≤ 20 → 0 ≤ p → p ≤ 10000 + 3 * acc.length →
    ∃ out q, out.length ≤ 12 ∧ p ≤ q ∧ q ≤ p + 3 * d + 2 ∧ ∀ k, 2 * d + 4 ≤ k → spec_l92Part.l0 k x1 acc x6 l p = some (out, q) := by
  intro d
  induction d with
  | zero =>
    intro acc x1 x6 p ha h0 h1 h2 h3 hp hp'
    obtain ⟨out, q, ho, q0, q1, hq⟩ := part_end l h acc x1 x6 p (by omega) hp (by omega)
    refine ⟨out, q, ho, q0, by omega, fun k hk => ?_⟩
    obtain ⟨k, rfl⟩ : ∃ m, k = m + 1 := ⟨k - 1, by omega⟩
    rw [spec_l92Part.l0, decide_eq_false (show ¬ (acc.length : Int) < 12 by omega)]
    split
    · exact hq k (by omega)
    · exact hq k (by omega)
  | succ d ih =>
    intro acc x1 x6 p ha h0 h1 h2 h3 hp hp'
    by_cases hx1 : x1 > 0
    · have hmn : 1 ≤ mn 3 x1 ∧ mn 3 x1 ≤ 3 ∧ mn 3 x1 ≤ x1 := by
        unfold mn
        split <;> omega
      obtain ⟨n0, n1⟩ := pk_bd h p (mn 3 x1) (by omega) (by omega) (by omega) (by omega)
      have hn := fun k (hk : 1 ≤ k) => pk_f h p (mn 3 x1) k (by omega) (by omega) (by omega) (by omega) hk
      by_cases hx : Int.tmod x6 7 = 2
      · obtain ⟨v0, v1⟩ := pk_bd h (p + 1 + 1) 5 (by omega) (by omega) (by omega) (by omega)
        obtain ⟨c0, c1⟩ := clamp_bd 1 16 (x6 + pk l (p + 1 + 1) 5 - 2) (by omega)
        obtain ⟨out, q, ho, q0, q1, hq⟩ := ih (acc ++ [⟨⟨x6, pk l (p + 1) 3 == 0⟩, 1 + pk l p (mn 3 x1)⟩]) (x1 - (1 + pk l p (mn 3 x1))) (mx 1 (mn 16 (x6 + pk l (p + 1 + 1) 5 - 2))) (p + 1 + 1 + 1) (by simp; omega) (by omega) (by omega) (by omega) (by omega) (by omega) (by simp; omega)
        refine ⟨out, q, ho, by omega, by omega, fun k hk => ?_⟩
        obtain ⟨k, rfl⟩ : ∃ m, k = m + 2 := ⟨k - 2, by omega⟩
        rw [spec_l92Part.l0, if_pos hx1, decide_eq_true (show (acc.length : Int) < 12 by omega), spec_l92Part.j1, if_pos rfl, hn k (by omega)]
        simp only [Option.bind_some]
        rw [letter_f]
        simp only [Option.bind_some]
        rw [if_pos hx, pk_f h (p + 1) 3 k (by omega) (by omega) (by omega) (by omega) (by omega)]
        simp only [Option.bind_some]
        rw [if_pos (by omega), pk_f h (p + 1 + 1) 5 k (by omega) (by omega) (by omega) (by omega) (by omega)]
        simp only [Option.bind_some]
        rw [w0 (i := 1 + pk l p (mn 3 x1)) (by omega) (by omega), w0 (i := x1 - (1 + pk l p (mn 3 x1))) (by omega) (by omega), w0 (i := x6 + pk l (p + 1 + 1) 5) (by omega) (by omega), w0 (i := x6 + pk l (p + 1 + 1) 5 - 2) (by omega) (by omega)]
        exact hq k (by omega)
      · obtain ⟨v0, v1⟩ := pk_bd h (p + 1) 5 (by omega) (by omega) (by omega) (by omega)
        obtain ⟨c0, c1⟩ := clamp_bd 1 16 (x6 + pk l (p + 1) 5 - 2) (by omega)
        obtain ⟨out, q, ho, q0, q1, hq⟩ := ih (acc ++ [⟨⟨x6, false⟩, 1 + pk l p (mn 3 x1)⟩]) (x1 - (1 + pk l p (mn 3 x1))) (mx 1 (mn 16 (x6 + pk l (p + 1) 5 - 2))) (p + 1 + 1) (by simp; omega) (by omega) (by omega) (by omega) (by omega) (by omega) (by simp; omega)
        refine ⟨out, q, ho, by omega, by omega, fun k hk => ?_⟩
        obtain ⟨k, rfl⟩ : ∃ m, k = m + 2 := ⟨k - 2, by omega⟩
        rw [spec_l92Part.l0, if_pos hx1, decide_eq_true (show (acc.length : Int) < 12 by omega), spec_l92Part.j1, if_pos rfl, hn k (by omega)]
        simp only [Option.bind_some]
        rw [letter_f]
        simp only [Option.bind_some]
        rw [if_neg hx, if_pos (by omega), pk_f h (p + 1) 5 k (by omega) (by omega) (by omega) (by omega) (by omega)]
        simp only [Option.bind_some]
        rw [w0 (i := 1 + pk l p (mn 3 x1)) (by omega) (by omega), w0 (i := x1 - (1 + pk l p (mn 3 x1))) (by omega) (by omega), w0 (i := x6 + pk l (p + 1) 5) (by omega) (by omega), w0 (i := x6 + pk l (p + 1) 5 - 2) (by omega) (by omega)]
        exact hq k (by omega)
    · obtain ⟨out, q, ho, q0, q1, hq⟩ := part_end l h acc x1 x6 p (by omega) hp (by omega)
      refine ⟨out, q, ho, q0, by omega, fun k hk => ?_⟩
      obtain ⟨k, rfl⟩ : ∃ m, k = m + 1 := ⟨k - 1, by omega⟩
      rw [spec_l92Part.l0, if_neg hx1]
      exact hq k (by omega)
theorem part_d (l : List Int) (h : Rdr l) (p a : Int) (h0 : 0 ≤ a) (h1 : a ≤ 1000) (hp : 0 ≤ p) (hp' : p ≤ 9000) : ∃ out q, out.length ≤ 12 ∧ p ≤ q ∧ q ≤ p + 40 ∧ ∀ k, 40 ≤ k → spec_l92Part.f k l p a = some (out, q) := by
  obtain ⟨v0, v1⟩ := pk_bd h p 6 (by omega) (by omega) (by omega) (by omega)
  obtain ⟨out, q, ho, q0, q1, hq⟩ := part_l0 l h 12 [] a (5 + pk l p 6) (p + 1) rfl h0 h1 (by omega) (by omega) (by omega) (by simp; omega)
  refine ⟨out, q, ho, by omega, by omega, fun k hk => ?_⟩
  unfold spec_l92Part.f
  rw [pk_f h p 6 k (by omega) (by omega) (by omega) (by omega) (by omega)]
  simp only [Option.bind_some]
  rw [w0 (i := 5 + pk l p 6) (by omega) (by omega)]
  exact hq k (by omega)
theorem sameV_l0 (xs : List S59) (hb : xs.length ≤ 1048576) : ∀ (d i k : Nat), i + d = xs.length → d < k → laws_sameVoices.l0 k xs xs (i : Int) = some true := by
  intro d
  induction d with
  | zero =>
    intro i k hi hk
    obtain ⟨k, rfl⟩ : ∃ m, k = m + 1 := ⟨k - 1, by omega⟩
    simp only [laws_sameVoices.l0]
    rw [if_neg (by omega)]
  | succ d ih =>
    intro i k hi hk
    obtain ⟨k, rfl⟩ : ∃ m, k = m + 1 := ⟨k - 1, by omega⟩
    simp only [laws_sameVoices.l0]
    rw [if_pos (by omega), if_pos (by omega), if_pos (by omega), if_neg (by simp), w1 (by omega)]
    exact ih (i + 1) k (by omega) (by omega)
theorem sameV_f (xs : List S59) (k : Nat) (hb : xs.length ≤ 1048576) (hk : xs.length < k) : laws_sameVoices.f k xs xs = some true := by
  unfold laws_sameVoices.f
  rw [if_pos rfl]
  simpa using sameV_l0 xs hb xs.length 0 k (by omega) hk
theorem dps_l0 (l : List Int) (h : Rdr l) : ∀ (d i : Nat) (acc : List S59) (p : Int), i + d = acc.length + 1 → 1 ≤ i → acc.length ≤ 12 → 0 ≤ p → p ≤ 10000 + i → ∃ out, out.length ≤ 12 ∧ ∀ k, d + 2 ≤ k → spec_DrawPartSlow.l0 k acc (i : Int) l p = some out := by
  intro d
  induction d with
  | zero =>
    intro i acc p hi h1 ha hp hp'
    refine ⟨acc, ha, fun k hk => ?_⟩
    obtain ⟨k, rfl⟩ : ∃ m, k = m + 1 := ⟨k - 1, by omega⟩
    simp only [spec_DrawPartSlow.l0]
    rw [if_neg (by omega)]
  | succ d ih =>
    intro i acc p hi h1 ha hp hp'
    by_cases hx : i < acc.length
    · by_cases h0 : pk l p 3 = 0
      · have e : wrap64 ((i : Int) - 1) = ((i - 1 : Nat) : Int) := by rw [w0 (by omega) (by omega)]; omega
        obtain ⟨out, ho, hq⟩ := ih (i + 1) (acc.set ((i : Int)).toNat (⟨(⟨(rd_T59 acc ((i - 1 : Nat) : Int)).f0.f0, (rd_T59 acc ((i - 1 : Nat) : Int)).f0.f1⟩ : S48), (rd_T59 acc (i : Int)).f1⟩ : S59)) (p + 1) (by simp; omega) (by omega) (by simpa using ha) (by omega) (by omega)
        refine ⟨out, ho, fun k hk => ?_⟩
        obtain ⟨k, rfl⟩ : ∃ m, k = m + 1 := ⟨k - 1, by omega⟩
        simp only [spec_DrawPartSlow.l0]
        rw [if_pos (by omega), pk_f h p 3 k (by omega) (by omega) (by omega) (by omega) (by omega)]
        simp only [Option.bind_some]
        rw [if_pos h0, e, if_pos (by omega), if_pos (by omega), if_pos (by omega), w1 (by omega)]
        exact hq k (by omega)
      · obtain ⟨out, ho, hq⟩ := ih (i + 1) acc (p + 1) (by omega) (by omega) ha (by omega) (by omega)
        refine ⟨out, ho, fun k hk => ?_⟩
        obtain ⟨k, rfl⟩ : ∃ m, k = m + 1 := ⟨k - 1, by omega⟩
        simp only [spec_DrawPartSlow.l0]
        rw [if_pos (by omega), pk_f h p 3 k (by omega) (by omega) (by omega) (by omega) (by omega)]
        simp only [Option.bind_some]
        rw [if_neg h0, w1 (by omega)]
        exact hq k (by omega)
    · refine ⟨acc, ha, fun k hk => ?_⟩
      obtain ⟨k, rfl⟩ : ∃ m, k = m + 1 := ⟨k - 1, by omega⟩
      simp only [spec_DrawPartSlow.l0]
      rw [if_neg (by omega)]
theorem dps_d (l : List Int) (hl : Bytes l) : ∃ m, m.length ≤ 12 ∧ ∀ k, 60 ≤ k → spec_DrawPartSlow.f k l = some m := by
  obtain ⟨o, ho, h⟩ := open_f l hl
  obtain ⟨v0, v1⟩ := pk_bd h 0 14 (by omega) (by omega) (by omega) (by omega)
  obtain ⟨m, q, hm, q0, q1, hq⟩ := part_d o h (0 + 1) (pk o 0 14) v0 (by omega) (by omega) (by omega)
  obtain ⟨out, hout, hd⟩ := dps_l0 o h m.length 1 m q (by omega) (by omega) hm (by omega) (by omega)
  refine ⟨out, hout, fun k hk => ?_⟩
  unfold spec_DrawPartSlow.f
  rw [ho]
  simp only [Option.bind_some]
  rw [pk_f h 0 14 k (by omega) (by omega) (by omega) (by omega) (by omega)]
  simp only [Option.bind_some]
  rw [hq k (by omega)]
  simp only [Option.bind_some]
  exact hd k (by omega)
theorem sound_l0 (a b : List S59) (ha : PV a = true) (hb : PV b = true) (he : expand a = expand b) (hn : (expand a).length ≤ 24) (n : Nat) (hnn : (expand a).length = n) (hpb : PB b = (n : Int)) : ∀ (d i k : Nat), i + d = n → d + 20 ≤ k → laws_soundsLike.l0 k a b (n : Int) (i : Int) = some true := by
  intro d
  induction d with
  | zero =>
    intro i k hi hk
    obtain ⟨k, rfl⟩ : ∃ m, k = m + 1 := ⟨k - 1, by omega⟩
    simp only [laws_soundsLike.l0]
    rw [if_neg (by omega), if_pos (by omega), pbi_f b k (by omega), Option.bind_some, hpb]
    simp
  | succ d ih =>
    intro i k hi hk
    obtain ⟨k, rfl⟩ : ∃ m, k = m + 1 := ⟨k - 1, by omega⟩
    have e : PA a (i : Int) = PA b (i : Int) := by
      unfold PA
      rw [ha, hb, he]
    have ok : (PA b (i : Int)).2.2 = true := by
      unfold PA
      rw [if_pos hb, if_pos (by omega), if_pos (by rw [← he]; omega)]
    simp only [laws_soundsLike.l0]
    rw [if_pos (by omega), pai_f a _ k (by omega), Option.bind_some, pai_f b _ k (by omega), Option.bind_some, e, if_pos ok, if_pos ok, if_neg (by simp), w1 (by omega)]
    exact ih (i + 1) k (by omega) (by omega)
theorem psl_l0 (part out : List S59) (hP : PV part = true) (hO : PV out = true) (hS : Slow out (sumB part) (expand part)) (hlen : out.length ≤ part.length) : ∀ (d i k : Nat), i + d = out.length + 1 → 1 ≤ i → d + 80 ≤ k → laws_FnPartSlow.l0 k part out (i : Int) = some true := by
  have hl := PV_len hO
  have hsb := PV_sum hP
  have hexp : ((expand part).length : Int) = sumB part := expand_sum part (PV_all hP)
  have hend : ∀ k, 80 ≤ k → ∀ i : Nat, ¬ i < out.length → laws_FnPartSlow.l0 k part out (i : Int) = some true := by
    intro k hk i hi
    obtain ⟨k, rfl⟩ : ∃ m, k = m + 1 := ⟨k - 1, by omega⟩
    have hpo : PB out = ((expand out).length : Int) := by
      unfold PB
      rw [if_pos hO, hS.sum, hS.exp, hexp]
    have hpp : PB part = ((expand out).length : Int) := by
      unfold PB
      rw [if_pos hP, hS.exp, hexp]
    have hs : laws_soundsLike.f k out part = some true := by
      unfold laws_soundsLike.f
      rw [pbi_f out k (by omega), Option.bind_some, hpo]
      have h24 : (expand out).length ≤ 24 := by rw [hS.exp]; omega
      simpa using sound_l0 out part hO hP hS.exp h24 (expand out).length rfl hpp (expand out).length 0 k (by omega) (by omega)
    simp only [laws_FnPartSlow.l0]
    rw [if_neg (by omega), hs, Option.bind_some, if_pos rfl, if_pos (by omega), pvi_f out k (by omega), Option.bind_some, hO]
  intro d
  induction d with
  | zero =>
    intro i k hi h1 hk
    exact hend k (by omega) i (by omega)
  | succ d ih =>
    intro i k hi h1 hk
    by_cases hx : i < out.length
    · obtain ⟨k, rfl⟩ : ∃ m, k = m + 1 := ⟨k - 1, by omega⟩
      have hy : i - 1 < out.length := by omega
      have e : wrap64 ((i : Int) - 1) = ((i - 1 : Nat) : Int) := by rw [w0 (by omega) (by omega)]; omega
      have hn := hS.nm (i - 1) (by omega)
      have ei : i - 1 + 1 = i := by omega
      simp only [ei] at hn
      have b0 := PV_bts hO out[i] (List.getElem_mem hx)
      have b1 := PV_bts hO out[i - 1] (List.getElem_mem hy)
      simp only [laws_FnPartSlow.l0]
      rw [if_pos (by omega), if_pos (by omega), e, if_pos (by omega), if_pos (by omega), rdv_at out i hx, rdv_at out (i - 1) hy, w1 (by omega), w0 (i := out[i].f1 + out[i - 1].f1) (by omega) (by omega)]
      by_cases hc : (out[i].f0.f0 == out[i - 1].f0.f0 && (out[i].f0.f1 == out[i - 1].f0.f1)) = true
      · rw [if_pos hc]
        simp only [Bool.and_eq_true, beq_iff_eq] at hc
        rw [if_neg (fun h3 => hn ⟨hc.1.symm, hc.2.symm, by omega⟩)]
        exact ih (i + 1) k (by omega) (by omega) (by omega)
      · rw [if_neg hc]
        exact ih (i + 1) k (by omega) (by omega) (by omega)
    · exact hend k (by omega) i hx
theorem FnPartSlow : ∀ (l0 : List Int), l0.length ≤ maxLen → l0.length * 1 ≤ 140737488351232 → (∀ n ∈ l0, (Lit.int .u8 n).wf = true) → ∃ k, laws_FnPartSlow.f k l0 = some true := by
  intro l0 z1 z2 hw
  refine ⟨203, ?_⟩
  unfold laws_FnPartSlow.f
  by_cases h : (l0.length : Int) > 1048576
  · rw [if_pos h]
  · rw [if_neg h]
    obtain ⟨m, hm, hd⟩ := dps_d l0 (bytes_of hw)
    have hpl := PSl_len m
    rw [hd 203 (by omega), Option.bind_some, sli_f m 203 (by omega), Option.bind_some, sls_f m (by omega) 203 (by omega), Option.bind_some, bne_self_eq_false, if_neg (by decide)]
    rw [sameV_f _ 203 (by omega) (by omega), Option.bind_some, if_pos rfl]
    by_cases hP : PV m = true
    · have e : PSl m = (m.foldl slowStep [], true) := by unfold PSl; rw [if_pos hP]
      obtain ⟨hO, hS⟩ := slow_all hP
      have hfl := fold_len m []
      rw [e] at hpl ⊢
      rw [Bool.not_true, laws_FnPartSlow.j0, if_neg (by decide)]
      refine psl_l0 m _ hP hO hS (by simp only [List.length_nil] at hfl; omega) (m.foldl slowStep []).length 1 202 (by omega) (by omega) (by simp only at hpl; omega)
    · have e : PSl m = ([], false) := by unfold PSl; rw [if_neg hP]
      rw [e] at hpl ⊢
      rw [Bool.not_false, laws_FnPartSlow.j0, if_pos rfl, if_pos (by rfl), sameV_f _ 202 (by simp) (by simp), Option.bind_some]

end Go.Proofs.Ytdddnfbedckgkaa.PureFnPartSlow
