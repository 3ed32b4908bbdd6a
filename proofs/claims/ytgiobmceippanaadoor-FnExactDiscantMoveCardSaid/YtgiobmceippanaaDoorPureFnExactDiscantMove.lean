/- FnExactDiscantMove: for every list of voices with at most 1048576 of them and every number of steps the program's DiscantMove answers as the reference's does, leaves its argument alone, and its answer lies apart from it (longer lists the statement lets pass). The table letterHeights is tied to the program's text. No condition beyond the statement's own. -/
import Derived.Test.YtgiobmceippanaaDoorGMx0
import Derived.Test.YtgiobmceippanaaDoorGMx3
import Derived.Test.YtgiobmceippanaaDoorGMx1
import Derived.Test.YtgiobmceippanaaDoorGMx7
import Derived.Test.YtgiobmceippanaaDoorGMx2
import Derived.Test.YtgiobmceippanaaDoorGMx6
import Derived.Test.YtgiobmceippanaaDoorGMx5
import Derived.Test.YtgiobmceippanaaDoorGMx4
import Derived.Test.YtgiobmceippanaaDoorGMx8
namespace Go.Proofs.YtgiobmceippanaaDoor.PureFnExactDiscantMove
open Go.RowKit Go.Proofs.YtgiobmceippanaaDoor.GM Go.Proofs.YtgiobmceippanaaDoorW.PrintWords Go.Proofs.YtgiobmceippanaaDoorW.PrintLast Go.Proofs.YtgiobmceippanaaDoorW.PrintMore 
set_option linter.unusedVariables false
set_option linter.unusedSimpArgs false
theorem w1 {i : Nat} (h : i < 4611686018427387904) : wrap64 ((i : Int) + 1) = ((i + 1 : Nat) : Int) := by
  unfold wrap64
  omega
theorem w0 {i : Int} (h : -9223372036854775808 ≤ i) (h' : i ≤ 9223372036854775807) : wrap64 i = i := by
  unfold wrap64
  omega
theorem rd_at (xs : List Int) (i : Nat) (h : i < xs.length) : rd xs (i : Int) = xs[i] := by
  simp [rd, List.getD_eq_getElem?_getD, h]
/-- A tone of the gamut. -/
def tv (a : Int) (b : Bool) : Bool := decide (0 ≤ a) && (decide (a ≤ 20) && (!b || decide (Int.tmod a 7 = 2)))
theorem tv_spec (a : Int) (b : Bool) : spec_ToneValid.f a b = some (tv a b) := by
  unfold spec_ToneValid.f spec_l6In.f spec_l1Letter.f tv
  by_cases h0 : a ≥ 0
  · rw [if_pos h0, decide_eq_true (show 0 ≤ a from h0)]
    by_cases h1 : a ≤ 20
    · simp only [h1, decide_true, Option.bind_some, if_true, Bool.true_and]
      cases b
      · rfl
      · simp
        rfl
    · simp [h1]
  · rw [if_neg h0, decide_eq_false (show ¬ 0 ≤ a from h0)]
    rfl
theorem tv_impl (a : Int) (b : Bool) : impl_Tone_valid.f a b = some (tv a b) := by
  unfold impl_Tone_valid.f tv
  by_cases h0 : a ≥ 0
  · rw [if_pos h0, decide_eq_true (show 0 ≤ a from h0)]
    by_cases h1 : a ≤ 20
    · rw [if_pos h1, decide_eq_true h1]
      cases b
      · rfl
      · simp
        rfl
    · rw [if_neg h1, decide_eq_false h1]
      rfl
  · rw [if_neg h0, decide_eq_false (show ¬ 0 ≤ a from h0)]
    rfl
theorem in_spec (a b c : Int) : spec_l6In.f a b c = some (decide (b ≤ a) && decide (a ≤ c)) := by
  unfold spec_l6In.f
  by_cases h0 : a ≥ b
  · rw [if_pos h0, decide_eq_true (show b ≤ a from h0)]; rfl
  · rw [if_neg h0, decide_eq_false (show ¬ b ≤ a from h0)]; rfl
def vv (v : S56) : Bool := tv v.f0.f0 v.f0.f1 && (decide (1 ≤ v.f1) && decide (v.f1 ≤ 3))
theorem rdv_at (xs : List S56) (i : Nat) (h : i < xs.length) : rd_T56 xs (i : Int) = xs[i] := by
  simp [rd_T56, List.getD_eq_getElem?_getD, h]
theorem rdlv_at (xs : List S69) (i : Nat) (h : i < xs.length) : rd_T69 xs (i : Int) = xs[i] := by
  simp [rd_T69, List.getD_eq_getElem?_getD, h]
def conv (v : S69) : S56 := ⟨⟨v.f0.f0, v.f0.f1⟩, v.f1⟩
theorem toVoiceS_l0 : ∀ (xs : List S69) (zs pre : List S56) (pre0 : List S69) (k : Nat), zs.length = xs.length → pre.length = pre0.length → (pre0 ++ xs).length < 4611686018427387904 → xs.length < k → laws_toVoiceS.l0 k (pre0 ++ xs) (pre ++ zs) (pre0.length : Int) = some (pre ++ xs.map conv) := by
  intro xs
  induction xs with
  | nil =>
    intro zs pre pre0 k hz hp hb hk
    obtain ⟨k, rfl⟩ : ∃ m, k = m + 1 := ⟨k - 1, by omega⟩
    simp only [laws_toVoiceS.l0]
    rw [if_neg (by simp)]
    have : zs = [] := List.length_eq_zero_iff.mp hz
    rw [this]
    rfl
  | cons x xs ih =>
    intro zs pre pre0 k hz hp hb hk
    obtain ⟨k, rfl⟩ : ∃ m, k = m + 1 := ⟨k - 1, by omega⟩
    match zs, hz with
    | z :: zs, hz =>
    simp only [List.length_append, List.length_cons] at hb hk hz
    have hq : pre0.length < (pre0 ++ x :: xs).length := by simp
    have hq2 : pre0.length < (pre ++ z :: zs).length := by simp [hp]
    have e1 : (pre0 ++ x :: xs)[pre0.length]'hq = x := by simp
    simp only [laws_toVoiceS.l0]
    rw [if_pos (by omega), if_pos (by omega), rdlv_at _ _ hq, e1]
    simp only [laws_toVoice.f, laws_toTone.f, Option.bind_some]
    rw [if_pos (by omega), w1 (by omega)]
    have e2 : (pre ++ z :: zs).set ((pre0.length : Int)).toNat (conv x) = (pre ++ [conv x]) ++ zs := by simp [← hp]
    have := ih zs (pre ++ [conv x]) (pre0 ++ [x]) k (by omega) (by simp [hp]) (by simp; omega) (by omega)
    rw [show (⟨⟨x.f0.f0, x.f0.f1⟩, x.f1⟩ : S56) = conv x from rfl, e2]
    simpa using this
theorem toVoiceS_f (xs : List S69) (k : Nat) (hb : xs.length ≤ 1048576) (hk : xs.length < k) : laws_toVoiceS.f k xs = some (xs.map conv) := by
  unfold laws_toVoiceS.f
  rw [if_pos (by omega), if_pos (by omega)]
  simpa using toVoiceS_l0 xs (List.replicate xs.length z56) [] [] k (by simp) rfl (by simp; omega) hk
theorem eqVoice_self (v : S56) : laws_eqVoice.f v.f0.f0 v.f0.f1 v.f1 v.f0.f0 v.f0.f1 v.f1 = some true := by
  simp [laws_eqVoice.f, laws_eqTone.f]
theorem eqVoiceS_l0 (xs : List S56) (hb : xs.length < 4611686018427387904) : ∀ (d i k : Nat), i + d = xs.length → d < k → laws_eqVoiceS.l0 k xs xs (i : Int) = some true := by
  intro d
  induction d with
  | zero =>
    intro i k hi hk
    obtain ⟨k, rfl⟩ : ∃ m, k = m + 1 := ⟨k - 1, by omega⟩
    simp only [laws_eqVoiceS.l0]
    rw [if_neg (by omega)]
  | succ d ih =>
    intro i k hi hk
    obtain ⟨k, rfl⟩ : ∃ m, k = m + 1 := ⟨k - 1, by omega⟩
    simp only [laws_eqVoiceS.l0]
    rw [if_pos (by omega), if_pos (by omega), if_pos (by omega), rdv_at xs i (by omega), eqVoice_self]
    simp only [Option.bind_some, if_true]
    rw [w1 (by omega)]
    exact ih (i + 1) k (by omega) (by omega)
theorem eqVoiceS_f (xs : List S56) (k : Nat) (hb : xs.length ≤ 1048576) (hk : xs.length < k) : laws_eqVoiceS.f k xs xs = some true := by
  unfold laws_eqVoiceS.f
  rw [if_pos rfl]
  simpa using eqVoiceS_l0 xs (by omega) xs.length 0 k (by omega) hk
theorem szVoiceS_f (xs : List S69) (a : Int) (h0 : 0 ≤ a) (h1 : a ≤ 1048576) (hl : xs.length ≤ 9223372036854775807) : laws_szVoiceS.f xs a = some (if (xs.length : Int) ≤ a then a - xs.length else -1) := by
  unfold laws_szVoiceS.f
  rw [w0 (by omega) (by omega)]
  by_cases h : (xs.length : Int) ≤ a
  · rw [if_neg (by omega), if_pos h]
  · rw [if_pos (by omega), if_neg h]
def sumB (l : List S56) : Int := (l.map (·.f1)).sum
theorem sumB_cons (v : S56) (l : List S56) : sumB (v :: l) = v.f1 + sumB l := by simp [sumB]
theorem vv_bd {v : S56} (h : vv v = true) : 1 ≤ v.f1 ∧ v.f1 ≤ 3 := by
  unfold vv at h
  simp only [Bool.and_eq_true, decide_eq_true_eq] at h
  exact h.2
theorem sumB_bd (l : List S56) (h : l.all vv = true) : 0 ≤ sumB l ∧ sumB l ≤ 3 * l.length := by
  induction l with
  | nil => simp [sumB]
  | cons v l ih =>
    simp only [List.all_cons, Bool.and_eq_true] at h
    have h1 := vv_bd h.1
    have h2 := ih h.2
    rw [sumB_cons, List.length_cons]
    omega
def PV (l : List S56) : Bool := decide (l.length ≤ 12) && (l.all vv && decide (sumB l ≤ 24))
theorem PV_len {l : List S56} (h : PV l = true) : l.length ≤ 12 := by
  unfold PV at h
  simp only [Bool.and_eq_true, decide_eq_true_eq] at h
  exact h.1
theorem PV_all {l : List S56} (h : PV l = true) : l.all vv = true := by
  unfold PV at h
  simp only [Bool.and_eq_true, decide_eq_true_eq] at h
  exact h.2.1
theorem PV_sum {l : List S56} (h : PV l = true) : sumB l ≤ 24 := by
  unfold PV at h
  simp only [Bool.and_eq_true, decide_eq_true_eq] at h
  exact h.2.2
theorem beats_l0 (l : List S56) (hl : l.length ≤ 12) (hv : l.all vv = true) : ∀ (d i k : Nat) (a : Int), i + d = l.length → d < k → 0 ≤ a → a ≤ 3 * i → spec_l8Beats.l0 k l a (i : Int) = some (a + sumB (l.drop i)) := by
  intro d
  induction d with
  | zero =>
    intro i k a hi hk h0 h1
    obtain ⟨k, rfl⟩ : ∃ m, k = m + 1 := ⟨k - 1, by omega⟩
    simp only [spec_l8Beats.l0]
    rw [if_neg (by omega), List.drop_eq_nil_of_le (by omega)]
    simp [sumB]
  | succ d ih =>
    intro i k a hi hk h0 h1
    obtain ⟨k, rfl⟩ : ∃ m, k = m + 1 := ⟨k - 1, by omega⟩
    have hx : i < l.length := by omega
    have hb := vv_bd (List.all_eq_true.1 hv _ (List.getElem_mem hx))
    simp only [spec_l8Beats.l0]
    rw [if_pos (by omega), if_pos (by omega), rdv_at l i hx, w1 (by omega), w0 (by omega) (by omega), ih (i + 1) k _ (by omega) (by omega) (by omega) (by omega), List.drop_eq_getElem_cons hx, sumB_cons]
    congr 1
    omega
theorem beats_f (l : List S56) (hl : l.length ≤ 12) (hv : l.all vv = true) (k : Nat) (hk : 13 ≤ k) : spec_l8Beats.f k l = some (sumB l) := by
  unfold spec_l8Beats.f
  simpa using beats_l0 l hl hv l.length 0 k 0 (by omega) (by omega) (by omega) (by omega)
theorem pvs_l0 (l : List S56) (hb : l.length < 4611686018427387904) : ∀ (d i k : Nat), i + d = l.length → d + 14 < k → (l.take i).all vv = true → spec_PartValid.l0 k l (i : Int) = some (PV l) := by
  intro d
  induction d with
  | zero =>
    intro i k hi hk hv
    obtain ⟨k, rfl⟩ : ∃ m, k = m + 1 := ⟨k - 1, by omega⟩
    rw [List.take_of_length_le (by omega)] at hv
    simp only [spec_PartValid.l0]
    rw [if_neg (by omega)]
    unfold PV
    rw [hv]
    by_cases hl : l.length ≤ 12
    · rw [if_pos (by omega), beats_f l hl hv k (by omega), decide_eq_true hl]
      rfl
    · rw [if_neg (by omega), decide_eq_false hl]
      rfl
  | succ d ih =>
    intro i k hi hk hv
    obtain ⟨k, rfl⟩ : ∃ m, k = m + 1 := ⟨k - 1, by omega⟩
    have hx : i < l.length := by omega
    simp only [spec_PartValid.l0]
    rw [if_pos (by omega), if_pos (by omega), rdv_at l i hx, tv_spec, in_spec]
    simp only [Option.bind_some]
    by_cases hvi : vv l[i] = true
    · have hvi2 := hvi
      unfold vv at hvi2
      simp only [Bool.and_eq_true] at hvi2
      rw [if_pos hvi2.1, if_pos (by simpa using hvi2.2), w1 (by omega)]
      refine ih (i + 1) k (by omega) (by omega) ?_
      rw [List.take_succ_eq_append_getElem hx, List.all_append, hv]
      simp [hvi]
    · have hF : PV l = false := by
        have : l.all vv = false := by
          rw [Bool.eq_false_iff]
          intro h
          exact hvi (List.all_eq_true.1 h _ (List.getElem_mem hx))
        unfold PV
        rw [this]
        simp
      rw [hF]
      unfold vv at hvi
      by_cases h1 : tv l[i].f0.f0 l[i].f0.f1 = true
      · rw [if_pos h1]
        rw [h1, Bool.true_and] at hvi
        rw [if_neg hvi]
      · rw [if_neg h1]
theorem pvs_f (l : List S56) (hb : l.length ≤ 1048576) (k : Nat) (hk : l.length + 15 < k) : spec_PartValid.f k l = some (PV l) := by
  unfold spec_PartValid.f
  simpa using pvs_l0 l (by omega) l.length 0 k (by omega) (by omega) (by simp)
theorem pvi_l0 (l : List S56) (hl : l.length ≤ 12) : ∀ (d i k : Nat) (a : Int), i + d = l.length → d < k → 0 ≤ a → a ≤ 3 * i → impl_PartValid.l0 k a l (l.length : Int) (i : Int) = some ((l.drop i).all vv && decide (a + sumB (l.drop i) ≤ 24)) := by
  intro d
  induction d with
  | zero =>
    intro i k a hi hk h0 h1
    obtain ⟨k, rfl⟩ : ∃ m, k = m + 1 := ⟨k - 1, by omega⟩
    simp only [impl_PartValid.l0]
    rw [if_neg (by omega), List.drop_eq_nil_of_le (by omega)]
    simp [sumB]
  | succ d ih =>
    intro i k a hi hk h0 h1
    obtain ⟨k, rfl⟩ : ∃ m, k = m + 1 := ⟨k - 1, by omega⟩
    have hx : i < l.length := by omega
    simp only [impl_PartValid.l0]
    rw [if_pos (by omega), if_pos (by omega), if_pos (by omega), rdv_at l i hx, tv_impl, List.drop_eq_getElem_cons hx, sumB_cons, List.all_cons]
    simp only [Option.bind_some]
    by_cases ht : tv l[i].f0.f0 l[i].f0.f1 = true
    · rw [if_pos ht]
      by_cases h3 : l[i].f1 < 1
      · rw [if_pos h3]
        have : vv l[i] = false := by unfold vv; rw [decide_eq_false (show ¬ 1 ≤ l[i].f1 by omega)]; simp
        rw [this]
        rfl
      · rw [if_neg h3]
        by_cases h4 : l[i].f1 > 3
        · rw [if_pos h4]
          have : vv l[i] = false := by unfold vv; rw [decide_eq_false (show ¬ l[i].f1 ≤ 3 by omega)]; simp
          rw [this]
          rfl
        · have : vv l[i] = true := by unfold vv; rw [ht, decide_eq_true (show 1 ≤ l[i].f1 by omega), decide_eq_true (show l[i].f1 ≤ 3 by omega)]; rfl
          rw [if_neg h4, w1 (by omega), w0 (by omega) (by omega), ih (i + 1) k _ (by omega) (by omega) (by omega) (by omega), this, Bool.true_and, Int.add_assoc]
    · rw [if_neg ht]
      have : vv l[i] = false := by unfold vv; rw [Bool.eq_false_iff.mpr ht]; rfl
      rw [this]
      rfl
theorem pvi_f (l : List S56) (k : Nat) (hk : 13 ≤ k) : impl_PartValid.f k l = some (PV l) := by
  unfold impl_PartValid.f PV
  by_cases hl : l.length ≤ 12
  · rw [if_neg (by omega), decide_eq_true hl, Bool.true_and]
    simpa using pvi_l0 l hl l.length 0 k 0 (by omega) (by omega) (by omega) (by omega)
  · rw [if_pos (by omega), decide_eq_false hl]
    rfl
def tvv (t : S49) : Bool := tv t.f0 t.f1
theorem rdt_at (xs : List S49) (i : Nat) (h : i < xs.length) : rd_T49 xs (i : Int) = xs[i] := by
  simp [rd_T49, List.getD_eq_getElem?_getD, h]
def MV (l : List S49) : Bool := decide (l.length ≤ 24) && l.all tvv
theorem mvs_l0 (l : List S49) (hb : l.length < 4611686018427387904) : ∀ (d i k : Nat), i + d = l.length → d < k → (l.take i).all tvv = true → spec_MelodyValid.l0 k l (i : Int) = some (MV l) := by
  intro d
  induction d with
  | zero =>
    intro i k hi hk hv
    obtain ⟨k, rfl⟩ : ∃ m, k = m + 1 := ⟨k - 1, by omega⟩
    rw [List.take_of_length_le (by omega)] at hv
    simp only [spec_MelodyValid.l0]
    rw [if_neg (by omega)]
    unfold MV
    rw [hv, Bool.and_true]
    congr 1
    rw [decide_eq_decide]
    omega
  | succ d ih =>
    intro i k hi hk hv
    obtain ⟨k, rfl⟩ : ∃ m, k = m + 1 := ⟨k - 1, by omega⟩
    have hx : i < l.length := by omega
    simp only [spec_MelodyValid.l0]
    rw [if_pos (by omega), if_pos (by omega), rdt_at l i hx, tv_spec]
    simp only [Option.bind_some]
    by_cases hvi : tv l[i].f0 l[i].f1 = true
    · rw [if_pos hvi, w1 (by omega)]
      refine ih (i + 1) k (by omega) (by omega) ?_
      rw [List.take_succ_eq_append_getElem hx, List.all_append, hv]
      simp [tvv, hvi]
    · rw [if_neg hvi]
      have : l.all tvv = false := by
        rw [Bool.eq_false_iff]
        intro h
        exact hvi (List.all_eq_true.1 h _ (List.getElem_mem hx))
      unfold MV
      rw [this, Bool.and_false]
theorem mvs_f (l : List S49) (hb : l.length ≤ 1048576) (k : Nat) (hk : l.length < k) : spec_MelodyValid.f k l = some (MV l) := by
  unfold spec_MelodyValid.f
  simpa using mvs_l0 l (by omega) l.length 0 k (by omega) (by omega) (by simp)
theorem mvi_l0 (l : List S49) (hb : l.length < 4611686018427387904) : ∀ (d i k : Nat), i + d = l.length → d < k → impl_MelodyValid.l0 k l (l.length : Int) (i : Int) = some ((l.drop i).all tvv) := by
  intro d
  induction d with
  | zero =>
    intro i k hi hk
    obtain ⟨k, rfl⟩ : ∃ m, k = m + 1 := ⟨k - 1, by omega⟩
    simp only [impl_MelodyValid.l0]
    rw [if_neg (by omega), List.drop_eq_nil_of_le (by omega)]
    rfl
  | succ d ih =>
    intro i k hi hk
    obtain ⟨k, rfl⟩ : ∃ m, k = m + 1 := ⟨k - 1, by omega⟩
    have hx : i < l.length := by omega
    simp only [impl_MelodyValid.l0]
    rw [if_pos (by omega), if_pos (by omega), if_pos (by omega), rdt_at l i hx, tv_impl, List.drop_eq_getElem_cons hx, List.all_cons]
    simp only [Option.bind_some]
    by_cases ht : tv l[i].f0 l[i].f1 = true
    · rw [if_pos ht, w1 (by omega), ih (i + 1) k (by omega) (by omega), show tvv l[i] = true from ht, Bool.true_and]
    · rw [if_neg ht, show tvv l[i] = false from Bool.eq_false_iff.mpr ht, Bool.false_and]
theorem mvi_f (l : List S49) (k : Nat) (hk : 25 ≤ k) : impl_MelodyValid.f k l = some (MV l) := by
  unfold impl_MelodyValid.f MV
  by_cases h : l.length ≤ 24
  · rw [if_neg (by omega), decide_eq_true h, Bool.true_and]
    simpa using mvi_l0 l (by omega) l.length 0 k (by omega) (by omega)
  · rw [if_pos (by omega), decide_eq_false h, Bool.false_and]

def mkv (t : S49) (b : Int) : S56 := ⟨⟨t.f0, t.f1⟩, b⟩
theorem tv_ok (a : Int) (b : Bool) : tv a b = toneOk a b := by
  unfold tv toneOk
  by_cases h : 0 ≤ a
  · rw [Int.tmod_eq_emod_of_nonneg h]
  · simp [h]
theorem MV_ok {l : List S49} (h : MV l = true) : ∀ t ∈ l, toneOk t.f0 t.f1 = true := by
  unfold MV at h
  simp only [Bool.and_eq_true, decide_eq_true_eq] at h
  intro t ht
  rw [← tv_ok]
  exact List.all_eq_true.1 h.2 t ht
def SM (l : List S49) (a : Int) : List S49 × Bool := if MV l = true then mvMove a l else ([], false)
theorem MV_len {l : List S49} (h : MV l = true) : l.length ≤ 24 := by
  unfold MV at h
  simp only [Bool.and_eq_true, decide_eq_true_eq] at h
  exact h.1
theorem mmi_f (l : List S49) (a : Int) (k : Nat) (hk : 25 ≤ k) : impl_MelodyMove.f k l a = some (SM l a) := by
  unfold impl_MelodyMove.f SM
  rw [mvi_f l k hk, Option.bind_some]
theorem mvd_ok {t x : S49} {a s : Int} (h : mvd t a s = some x) : toneOk x.f0 x.f1 = true ∧ x.f0 = t.f0 + a ∧ htI x.f0 x.f1 - htI t.f0 t.f1 = s := by
  unfold mvd mvOk at h
  split at h
  · rename_i h1
    rw [← Option.some.inj h]
    simp only [Bool.and_eq_true, decide_eq_true_eq] at h1
    exact ⟨h1.1, rfl, h1.2⟩
  · split at h
    · rename_i h1
      rw [← Option.some.inj h]
      simp only [Bool.and_eq_true, decide_eq_true_eq] at h1
      exact ⟨h1.1, rfl, h1.2⟩
    · exact absurd h (by simp)
theorem mvAll_at (a s : Int) : ∀ (l xs : List S49), mvAll a s l = some xs → ∀ (i : Nat) (h : i < l.length) (h' : i < xs.length), mvd l[i] a s = some xs[i]
  | [], xs, _, i, h, _ => by simp at h
  | t :: ts, xs, hx, i, h, h' => by
    simp only [mvAll] at hx
    obtain ⟨y, h1, hx⟩ := Option.bind_eq_some_iff.mp hx
    obtain ⟨ys, h2, hx⟩ := Option.bind_eq_some_iff.mp hx
    obtain rfl := Option.some.inj hx
    cases i with
    | zero => exact h1
    | succ i => exact mvAll_at a s ts ys h2 i (by simpa using h) (by simpa using h')
/-- A moved melody: as long as the melody, each tone moved by the same steps and semitones. -/
theorem mvMove_ok {a : Int} {l xs : List S49} (h : mvMove a l = (xs, true)) : xs.length = l.length ∧ ∃ s, ∀ (i : Nat) (h : i < l.length) (h' : i < xs.length), toneOk xs[i].f0 xs[i].f1 = true ∧ xs[i].f0 = l[i].f0 + a ∧ htI xs[i].f0 xs[i].f1 - htI l[i].f0 l[i].f1 = s := by
  have key : ∀ s, mvAll a s l = some xs → xs.length = l.length ∧ ∃ s, ∀ (i : Nat) (h : i < l.length) (h' : i < xs.length), toneOk xs[i].f0 xs[i].f1 = true ∧ xs[i].f0 = l[i].f0 + a ∧ htI xs[i].f0 xs[i].f1 - htI l[i].f0 l[i].f1 = s :=
    fun s hs => ⟨mvAll_len a s l xs hs, s, fun i h1 h2 => mvd_ok (mvAll_at a s l xs hs i h1 h2)⟩
  cases l with
  | nil =>
    have := (Prod.mk.inj (show (([] : List S49), true) = (xs, true) from h)).1
    subst this
    exact ⟨rfl, 0, fun i h1 _ => by simp at h1⟩
  | cons t ts =>
    unfold mvMove at h
    dsimp only at h
    split at h
    · split at h
      · rename_i ys hy
        have := (Prod.mk.inj h).1
        subst this
        unfold mvTry at hy
        split at hy
        · exact key _ hy
        · exact absurd hy (by simp)
      · split at h
        · rename_i ys hy
          have := (Prod.mk.inj h).1
          subst this
          unfold mvTry at hy
          split at hy
          · exact key _ hy
          · exact absurd hy (by simp)
        · exact absurd (Prod.mk.inj h).2 (by decide)
    · exact absurd (Prod.mk.inj h).2 (by decide)
theorem hts_fin : ∀ b : Bool, ∀ n : Nat, n < 21 → decide (spec_l1Height.f (n : Int) b = some (htI (n : Int) b)) = true := by decide +kernel
theorem hts_f {a : Int} {b : Bool} (h : toneOk a b = true) : spec_l1Height.f a b = some (htI a b) := by
  have hb := toneOk_bd h
  obtain ⟨n, rfl⟩ := Int.eq_ofNat_of_zero_le hb.1
  exact of_decide_eq_true (hts_fin b n (by omega))
theorem diff_w {a b : Int} {x y : Bool} (h : toneOk a x = true) (h' : toneOk b y = true) : wrap64 (htI a x - htI b y) = htI a x - htI b y := by
  have := htI_bd h
  have := htI_bd h'
  unfold wrap64
  omega
theorem l2_test (l : List S49) (a s : Int) (h0 : -20 ≤ a) (h1 : a ≤ 20) (i : Nat) (hi : i < l.length) (hv : toneOk l[i].f0 l[i].f1 = true) (acc : List S49) (hacc : acc.length ≤ 100) (j : Int) (hj : j < 2) (hj0 : 0 ≤ j) (k : Nat) :
    spec_l2Moved.l1 (k + 2) l a s acc (i : Int) false j = if mvOk l[i] a s (j == 1) = true then spec_l2Moved.l1 k l a s (acc ++ [⟨l[i].f0 + a, (j == 1)⟩]) (i : Int) true (j + 1) else spec_l2Moved.l1 k l a s acc (i : Int) false (j + 1) := by
  have hb := toneOk_bd hv
  simp only [spec_l2Moved.l1]
  rw [if_pos hj, Bool.not_false]
  simp only [spec_l2Moved.j2]
  rw [if_pos trivial, if_pos (by omega), if_pos (by omega), rdt_at l i hi, w0 (i := l[i].f0 + a) (by omega) (by omega), tv_spec, tv_ok, Option.bind_some, w0 (i := j + 1) (by omega) (by omega)]
  unfold mvOk
  by_cases hok : toneOk (l[i].f0 + a) (j == 1) = true
  · rw [hok, if_pos rfl, hts_f hok, hts_f hv]
    simp only [Option.bind_some]
    rw [diff_w hok hv, Bool.true_and]
    by_cases hs : htI (l[i].f0 + a) (j == 1) - htI l[i].f0 l[i].f1 = s
    · rw [if_pos hs, if_pos (by omega), if_pos (decide_eq_true hs)]
    · rw [if_neg hs, if_neg (by rw [decide_eq_false hs]; decide)]
  · rw [Bool.eq_false_iff.mpr hok, if_neg (by decide), Bool.false_and, if_neg (by decide)]
theorem l2_found (l : List S49) (a s : Int) (acc : List S49) (i : Nat) (hi : i < 1000) (j : Int) (k : Nat) : spec_l2Moved.l1 (k + 2) l a s acc (i : Int) true j = spec_l2Moved.l0 k l a s acc ((i + 1 : Nat) : Int) := by
  simp only [spec_l2Moved.l1]
  split
  · rw [Bool.not_true]
    simp only [spec_l2Moved.j2]
    rw [if_neg (by decide), if_pos trivial, w1 (by omega)]
  · simp only [spec_l2Moved.j2]
    rw [if_neg (by decide), if_pos trivial, w1 (by omega)]
theorem l2_l0 (l : List S49) (a s : Int) (h0 : -20 ≤ a) (h1 : a ≤ 20) (hl : l.length ≤ 24) (hv : ∀ t ∈ l, toneOk t.f0 t.f1 = true) : ∀ (d i k : Nat) (acc : List S49), i + d = l.length → acc.length ≤ i → 8 * d + 8 ≤ k →
    spec_l2Moved.l0 k l a s acc (i : Int) = some (match mvAll a s (l.drop i) with | some xs => (acc ++ xs, true) | none => ([], false)) := by
  intro d
  induction d with
  | zero =>
    intro i k acc hi ha hk
    obtain ⟨k, rfl⟩ : ∃ m, k = m + 1 := ⟨k - 1, by omega⟩
    simp only [spec_l2Moved.l0]
    rw [if_neg (by omega), List.drop_eq_nil_of_le (by omega)]
    simp [mvAll]
  | succ d ih =>
    intro i k acc hi ha hk
    have hx : i < l.length := by omega
    have hvi := hv _ (List.getElem_mem hx)
    obtain ⟨k, rfl⟩ : ∃ m, k = m + 7 := ⟨k - 7, by omega⟩
    have e0 : spec_l2Moved.l0 (k + 7) l a s acc (i : Int) = spec_l2Moved.l1 (k + 6) l a s acc (i : Int) false 0 := by
      simp only [spec_l2Moved.l0]
      rw [if_pos (by omega)]
    rw [e0, l2_test l a s h0 h1 i hx hvi acc (by omega) 0 (by omega) (by omega) (k + 4), List.drop_eq_getElem_cons hx]
    simp only [mvAll, mvd]
    by_cases hf : mvOk l[i] a s ((0 : Int) == 1) = true
    · have hf' : mvOk l[i] a s false = true := hf
      rw [if_pos hf, if_pos hf', l2_found l a s _ i (by omega) _ (k + 2), ih (i + 1) (k + 2) _ (by omega) (by simp; omega) (by omega), Option.bind_some]
      cases mvAll a s (l.drop (i + 1)) with
      | none => rfl
      | some xs =>
        simp only [Option.bind_some, List.append_assoc, List.singleton_append]
        rfl
    · have hf' : ¬ mvOk l[i] a s false = true := hf
      rw [if_neg hf, if_neg hf', l2_test l a s h0 h1 i hx hvi acc (by omega) (0 + 1) (by omega) (by omega) (k + 2)]
      by_cases hg : mvOk l[i] a s (((0 : Int) + 1) == 1) = true
      · have hg' : mvOk l[i] a s true = true := hg
        rw [if_pos hg, if_pos hg', l2_found l a s _ i (by omega) _ k, ih (i + 1) k _ (by omega) (by simp; omega) (by omega), Option.bind_some]
        cases mvAll a s (l.drop (i + 1)) with
        | none => rfl
        | some xs =>
          simp only [Option.bind_some, List.append_assoc, List.singleton_append]
          rfl
      · have hg' : ¬ mvOk l[i] a s true = true := hg
        rw [if_neg hg, if_neg hg', Option.bind_none]
        simp only [spec_l2Moved.l1]
        rw [if_neg (by omega)]
        simp only [spec_l2Moved.j2]
        rw [if_neg (by decide), if_neg (by decide)]
theorem l2_f (l : List S49) (a s : Int) (h0 : -20 ≤ a) (h1 : a ≤ 20) (hl : l.length ≤ 24) (hv : ∀ t ∈ l, toneOk t.f0 t.f1 = true) (k : Nat) (hk : 210 ≤ k) :
    spec_l2Moved.f k l a s = some (match mvAll a s l with | some xs => (xs, true) | none => ([], false)) := by
  unfold spec_l2Moved.f
  simpa using l2_l0 l a s h0 h1 hl hv l.length 0 k [] (by omega) (by simp) (by omega)
theorem mms_l0 (l : List S49) (a : Int) (h0 : -20 ≤ a) (h1 : a ≤ 20) (hl : l.length ≤ 24) (hv : ∀ t ∈ l, toneOk t.f0 t.f1 = true) (hp : 0 < l.length) (j : Int) (hj : j < 2) (hj0 : 0 ≤ j) (k : Nat) (hk : 210 ≤ k) :
    spec_MelodyMove.l0 (k + 1) l a j = match mvTry l l[0] a (j == 1) with | some xs => some (xs, true) | none => spec_MelodyMove.l0 k l a (j + 1) := by
  have hvi := hv _ (List.getElem_mem hp)
  have hb := toneOk_bd hvi
  have er : rd_T49 l 0 = l[0] := rdt_at l 0 hp
  simp only [spec_MelodyMove.l0]
  rw [if_pos hj, if_pos (by omega), er, w0 (i := l[0].f0 + a) (by omega) (by omega), tv_spec, tv_ok, Option.bind_some, w0 (i := j + 1) (by omega) (by omega)]
  unfold mvTry
  by_cases hok : toneOk (l[0].f0 + a) (j == 1) = true
  · rw [if_pos hok, if_pos hok, hts_f hok, hts_f hvi]
    simp only [Option.bind_some]
    rw [diff_w hok hvi, l2_f l a _ h0 h1 hl hv k hk]
    cases mvAll a (htI (l[0].f0 + a) (j == 1) - htI l[0].f0 l[0].f1) l with
    | none => simp
    | some xs => simp
  · rw [if_neg hok, if_neg hok]
theorem mms_f (l : List S49) (a : Int) (hb : l.length ≤ 1048576) (k : Nat) (hk : l.length + 300 ≤ k) : spec_MelodyMove.f k l a = some (SM l a) := by
  unfold spec_MelodyMove.f SM
  by_cases hn : l.length = 0
  · have e : l = [] := List.length_eq_zero_iff.mp hn
    subst e
    rw [if_pos (by simp), if_pos (by decide)]
    rfl
  · rw [if_neg (by omega), mvs_f l hb k (by omega), Option.bind_some]
    obtain ⟨k, rfl⟩ : ∃ m, k = m + 4 := ⟨k - 4, by omega⟩
    by_cases hM : MV l = true
    · have hl := MV_len hM
      have hv := MV_ok hM
      rw [if_pos hM, if_pos hM, in_spec, Option.bind_some]
      simp only [spec_MelodyMove.j0]
      obtain ⟨t, ts, rfl⟩ : ∃ t ts, l = t :: ts := by
        cases l with
        | nil => simp at hn
        | cons t ts => exact ⟨t, ts, rfl⟩
      unfold mvMove
      dsimp only
      by_cases hr : -20 ≤ a ∧ a ≤ 20
      · rw [if_pos hr, decide_eq_true hr.1, decide_eq_true hr.2, if_neg (by decide), mms_l0 (t :: ts) a hr.1 hr.2 hl hv (by simp) 0 (by omega) (by omega) (k + 2) (by omega)]
        have e1 : mvTry (t :: ts) (t :: ts)[0] a ((0 : Int) == 1) = mvTry (t :: ts) t a false := rfl
        rw [e1]
        cases mvTry (t :: ts) t a false with
        | some xs => rfl
        | none =>
          dsimp only
          rw [mms_l0 (t :: ts) a hr.1 hr.2 hl hv (by simp) (0 + 1) (by omega) (by omega) (k + 1) (by omega)]
          have e2 : mvTry (t :: ts) (t :: ts)[0] a (((0 : Int) + 1) == 1) = mvTry (t :: ts) t a true := rfl
          rw [e2]
          cases mvTry (t :: ts) t a true with
          | some xs => rfl
          | none =>
            dsimp only
            simp only [spec_MelodyMove.l0]
            rw [if_neg (by omega)]
      · rw [if_neg hr, if_pos ?_]
        by_cases h0 : -20 ≤ a
        · rw [decide_eq_true h0, decide_eq_false (fun h => hr ⟨h0, h⟩)]
          rfl
        · rw [decide_eq_false h0]
          rfl
    · rw [if_neg hM, if_neg hM]
      simp only [spec_MelodyMove.j0]
      rw [if_pos trivial]
def fin (p : List S56) : List S56 × Bool := if PV p = true then (p, true) else ([], false)
def PM (l : List S49) (s : List Int) : List S56 × Bool := if MV l = true then (if s.length = l.length then fin (List.zipWith mkv l s) else ([], false)) else ([], false)
theorem pms_l0 (l : List S49) (s : List Int) (hs : s.length = l.length) (hl : l.length ≤ 24) : ∀ (d i k : Nat) (acc : List S56), i + d = l.length → acc.length = i → d + 60 < k →
    spec_PartMake.l0 k l s acc (i : Int) = some (fin (acc ++ List.zipWith mkv (l.drop i) (s.drop i))) := by
  intro d
  induction d with
  | zero =>
    intro i k acc hi ha hk
    obtain ⟨k, rfl⟩ : ∃ m, k = m + 1 := ⟨k - 1, by omega⟩
    simp only [spec_PartMake.l0]
    rw [if_neg (by omega), pvs_f acc (by omega) k (by omega), List.drop_eq_nil_of_le (by omega), Option.bind_some, List.zipWith_nil_left, List.append_nil]
    unfold fin
    split <;> rfl
  | succ d ih =>
    intro i k acc hi ha hk
    obtain ⟨k, rfl⟩ : ∃ m, k = m + 1 := ⟨k - 1, by omega⟩
    have hx : i < l.length := by omega
    have hy : i < s.length := by omega
    simp only [spec_PartMake.l0]
    rw [if_pos (by omega), if_pos (by omega), if_pos (by omega), if_pos (by omega), rdt_at l i hx, rd_at s i hy, w1 (by omega), List.drop_eq_getElem_cons hx, List.drop_eq_getElem_cons hy, List.zipWith_cons_cons]
    have := ih (i + 1) k (acc ++ [mkv l[i] s[i]]) (by omega) (by simp [ha]) (by omega)
    rw [List.append_assoc, List.singleton_append] at this
    exact this
theorem pms_f (l : List S49) (s : List Int) (k : Nat) (hb : l.length ≤ 1048576) (hk : l.length + 100 < k) : spec_PartMake.f k l s = some (PM l s) := by
  unfold spec_PartMake.f PM
  simp only [Option.bind_some]
  rw [mvs_f l hb k (by omega), Option.bind_some]
  obtain ⟨k, rfl⟩ : ∃ m, k = m + 1 := ⟨k - 1, by omega⟩
  by_cases hM : MV l = true
  · rw [if_pos hM, if_pos hM, spec_PartMake.j0]
    by_cases h : s.length = l.length
    · rw [if_neg (by simp; omega), if_pos h]
      simpa using pms_l0 l s h (MV_len hM) l.length 0 k [] (by omega) rfl (by omega)
    · rw [if_pos (by simp; omega), if_neg h]
  · rw [if_neg hM, if_neg hM, spec_PartMake.j0, if_pos rfl]
theorem PM_len (l : List S49) (s : List Int) : (PM l s).1.length ≤ 24 := by
  unfold PM fin
  split
  · rename_i h
    have := MV_len h
    split
    · split
      · simp; omega
      · simp
    · simp
  · simp
def tones (l : List S56) : List S49 := l.map (·.f0)
def beatsOf (l : List S56) : List Int := l.map (·.f1)
def DMV (l : List S56) (a : Int) : List S56 × Bool := if PV l = true then (if (mvMove a (tones l)).2 = true then (List.zipWith mkv (mvMove a (tones l)).1 (beatsOf l), true) else ([], false)) else ([], false)
theorem tones_MV {l : List S56} (h : PV l = true) : MV (tones l) = true := by
  have h1 := PV_len h
  have h2 := PV_all h
  unfold MV tones
  rw [decide_eq_true (by simp; omega), Bool.true_and, List.all_map]
  rw [List.all_eq_true] at h2 ⊢
  intro v hv
  have := h2 v hv
  unfold vv at this
  rw [Bool.and_eq_true] at this
  exact this.1
theorem zip_beats (b : List Int) : ∀ (xs : List S49), xs.length = b.length → beatsOf (List.zipWith mkv xs b) = b := by
  induction b with
  | nil => intro xs h; cases xs with
    | nil => rfl
    | cons x xs => simp at h
  | cons y b ih => intro xs h; cases xs with
    | nil => simp at h
    | cons x xs =>
      have := ih xs (by simpa using h)
      unfold beatsOf at this ⊢
      rw [List.zipWith_cons_cons, List.map_cons, this]
      rfl
theorem zip_tones (xs : List S49) : ∀ (b : List Int), xs.length = b.length → tones (List.zipWith mkv xs b) = xs := by
  induction xs with
  | nil => intro b h; rfl
  | cons x xs ih => intro b h; cases b with
    | nil => simp at h
    | cons y b =>
      have := ih b (by simpa using h)
      unfold tones at this ⊢
      rw [List.zipWith_cons_cons, List.map_cons, this]
      rfl
theorem zip_PV {l : List S56} (h : PV l = true) {xs : List S49} (hn : xs.length = l.length) (hx : ∀ t ∈ xs, tv t.f0 t.f1 = true) : PV (List.zipWith mkv xs (beatsOf l)) = true := by
  have hlen : (beatsOf l).length = l.length := by simp [beatsOf]
  have hb := zip_beats (beatsOf l) xs (by omega)
  have ht := zip_tones xs (beatsOf l) (by omega)
  have hz : (List.zipWith mkv xs (beatsOf l)).length = l.length := by rw [List.length_zipWith]; omega
  have h1 := PV_len h
  have h2 := PV_all h
  have h3 := PV_sum h
  have hs : sumB (List.zipWith mkv xs (beatsOf l)) = sumB l := by
    unfold sumB
    unfold beatsOf at hb
    rw [beatsOf, hb]
  unfold PV
  rw [hz, hs, decide_eq_true h1, decide_eq_true h3, Bool.and_true, Bool.true_and, List.all_eq_true]
  intro v hv
  unfold vv
  rw [Bool.and_eq_true]
  constructor
  · refine hx v.f0 ?_
    rw [← ht]
    exact List.mem_map_of_mem hv
  · have hm : v.f1 ∈ beatsOf l := by
      rw [← hb]
      exact List.mem_map_of_mem hv
    obtain ⟨u, hu, e⟩ := List.mem_map.1 hm
    have := List.all_eq_true.1 h2 u hu
    unfold vv at this
    rw [Bool.and_eq_true, e] at this
    exact this.2
theorem moved_tones {a : Int} {l xs : List S49} (h : mvMove a l = (xs, true)) : ∀ t ∈ xs, tv t.f0 t.f1 = true := by
  obtain ⟨hn, s, hs⟩ := mvMove_ok h
  intro t ht
  obtain ⟨i, hi, e⟩ := List.mem_iff_getElem.1 ht
  rw [tv_ok, ← e]
  exact (hs i (by omega) hi).1
theorem moved_MV {a : Int} {l xs : List S49} (hl : l.length ≤ 24) (h : mvMove a l = (xs, true)) : MV xs = true := by
  have hn := (mvMove_ok h).1
  unfold MV
  rw [decide_eq_true (by omega), Bool.true_and, List.all_eq_true]
  exact moved_tones h
theorem dmi_l0 (l : List S56) (a : Int) (hl : l.length ≤ 12) : ∀ (d i k : Nat) (acc : List S49), i + d = l.length → acc.length ≤ i → d < k →
    impl_DiscantMove.l0 k l a acc l (l.length : Int) (i : Int) = (impl_MelodyMove.f (k - d - 1) (acc ++ tones (l.drop i)) a).bind fun bt => if bt.2 = true then impl_DiscantMove.l1 (k - d - 1) bt.1 [] l (l.length : Int) 0 else some ([], false) := by
  intro d
  induction d with
  | zero =>
    intro i k acc hi ha hk
    obtain ⟨k, rfl⟩ : ∃ m, k = m + 1 := ⟨k - 1, by omega⟩
    simp only [impl_DiscantMove.l0]
    rw [if_neg (by omega), List.drop_eq_nil_of_le (by omega)]
    simp [tones]
  | succ d ih =>
    intro i k acc hi ha hk
    obtain ⟨k, rfl⟩ : ∃ m, k = m + 1 := ⟨k - 1, by omega⟩
    have hx : i < l.length := by omega
    simp only [impl_DiscantMove.l0]
    rw [if_pos (by omega), if_pos (by omega), if_pos (by omega), if_pos (by omega), rdv_at l i hx, w1 (by omega), ih (i + 1) k _ (by omega) (by simp; omega) (by omega), List.drop_eq_getElem_cons hx]
    have e : acc ++ [(⟨l[i].f0.f0, l[i].f0.f1⟩ : S49)] ++ tones (l.drop (i + 1)) = acc ++ tones (l[i] :: l.drop (i + 1)) := by
      rw [List.append_assoc]
      rfl
    rw [e, show k + 1 - (d + 1) - 1 = k - d - 1 by omega]
theorem dmi_l1 (xs : List S49) (l : List S56) (hl : l.length ≤ 12) (hn : xs.length = l.length) : ∀ (d i k : Nat) (acc : List S56), i + d = l.length → acc.length ≤ i → d < k →
    impl_DiscantMove.l1 k xs acc l (l.length : Int) (i : Int) = some (acc ++ List.zipWith mkv (xs.drop i) (beatsOf (l.drop i)), true) := by
  intro d
  induction d with
  | zero =>
    intro i k acc hi ha hk
    obtain ⟨k, rfl⟩ : ∃ m, k = m + 1 := ⟨k - 1, by omega⟩
    simp only [impl_DiscantMove.l1]
    rw [if_neg (by omega), List.drop_eq_nil_of_le (by omega), List.zipWith_nil_left, List.append_nil]
  | succ d ih =>
    intro i k acc hi ha hk
    obtain ⟨k, rfl⟩ : ∃ m, k = m + 1 := ⟨k - 1, by omega⟩
    have hx : i < l.length := by omega
    have hy : i < xs.length := by omega
    simp only [impl_DiscantMove.l1]
    rw [if_pos (by omega), if_pos (by omega), if_pos (by omega), if_pos (by omega), if_pos (by omega), rdv_at l i hx, rdt_at xs i hy, w1 (by omega), ih (i + 1) k _ (by omega) (by simp; omega) (by omega), List.drop_eq_getElem_cons hx, List.drop_eq_getElem_cons hy]
    rw [List.append_assoc]
    rfl
theorem dmi_f (l : List S56) (a : Int) (k : Nat) (hk : 60 ≤ k) : impl_DiscantMove.f k l a = some (DMV l a) := by
  unfold impl_DiscantMove.f DMV
  rw [pvi_f l k (by omega), Option.bind_some]
  by_cases h : PV l = true
  · have hl := PV_len h
    have h0 := dmi_l0 l a hl l.length 0 k [] (by omega) (by simp) (by omega)
    rw [if_pos h, if_pos h]
    rw [show (([] : List S49) ++ tones (l.drop 0)) = tones l by simp] at h0
    rw [show ((0 : Nat) : Int) = 0 from rfl] at h0
    rw [h0, mmi_f (tones l) a _ (by omega), Option.bind_some]
    unfold SM
    rw [if_pos (tones_MV h)]
    obtain ⟨xs, b, hm⟩ : ∃ xs b, mvMove a (tones l) = (xs, b) := ⟨_, _, rfl⟩
    rw [hm]
    dsimp only
    cases b with
    | false => rw [if_neg (by decide), if_neg (by decide)]
    | true =>
      have hn : xs.length = l.length := by rw [(mvMove_ok hm).1]; simp [tones]
      rw [if_pos rfl, if_pos rfl]
      simpa using dmi_l1 xs l hl hn l.length 0 (k - l.length - 1) [] (by omega) (by simp) (by omega)
  · rw [if_neg h, if_neg h]
theorem dms_l0 (l : List S56) (a : Int) (hl : l.length ≤ 12) : ∀ (d i k : Nat) (acc : List S49) (ab : List Int), i + d = l.length → acc.length ≤ i → ab.length ≤ i → d < k →
    spec_DiscantMove.l0 k l a acc ab (i : Int) = (spec_MelodyMove.f (k - d - 1) (acc ++ tones (l.drop i)) a).bind fun bt => if bt.2 = true then (spec_PartMake.f (k - d - 1) bt.1 (ab ++ beatsOf (l.drop i))).bind fun bu => some (bu.1, bu.2) else some ([], false) := by
  intro d
  induction d with
  | zero =>
    intro i k acc ab hi ha hb hk
    obtain ⟨k, rfl⟩ : ∃ m, k = m + 1 := ⟨k - 1, by omega⟩
    simp only [spec_DiscantMove.l0]
    rw [if_neg (by omega), List.drop_eq_nil_of_le (by omega)]
    simp [tones, beatsOf]
  | succ d ih =>
    intro i k acc ab hi ha hb hk
    obtain ⟨k, rfl⟩ : ∃ m, k = m + 1 := ⟨k - 1, by omega⟩
    have hx : i < l.length := by omega
    simp only [spec_DiscantMove.l0]
    rw [if_pos (by omega), if_pos (by omega), if_pos (by omega), if_pos (by omega), rdv_at l i hx, w1 (by omega), ih (i + 1) k _ _ (by omega) (by simp; omega) (by simp; omega) (by omega), List.drop_eq_getElem_cons hx]
    have e : acc ++ [(⟨l[i].f0.f0, l[i].f0.f1⟩ : S49)] ++ tones (l.drop (i + 1)) = acc ++ tones (l[i] :: l.drop (i + 1)) := by
      rw [List.append_assoc]
      rfl
    have e2 : ab ++ [l[i].f1] ++ beatsOf (l.drop (i + 1)) = ab ++ beatsOf (l[i] :: l.drop (i + 1)) := by
      rw [List.append_assoc]
      rfl
    rw [e, e2, show k + 1 - (d + 1) - 1 = k - d - 1 by omega]
theorem dms_f (l : List S56) (a : Int) (hb : l.length ≤ 1048576) (k : Nat) (hk : l.length + 400 ≤ k) : spec_DiscantMove.f k l a = some (DMV l a) := by
  unfold spec_DiscantMove.f DMV
  rw [pvs_f l hb k (by omega), Option.bind_some]
  by_cases h : PV l = true
  · have hl := PV_len h
    have h0 := dms_l0 l a hl l.length 0 k [] [] (by omega) (by simp) (by simp) (by omega)
    rw [if_pos h, if_pos h]
    rw [show (([] : List S49) ++ tones (l.drop 0)) = tones l by simp, show (([] : List Int) ++ beatsOf (l.drop 0)) = beatsOf l by simp] at h0
    rw [show ((0 : Nat) : Int) = 0 from rfl] at h0
    have ht : (tones l).length = l.length := by simp [tones]
    rw [h0, mms_f (tones l) a (by omega) _ (by omega), Option.bind_some]
    unfold SM
    rw [if_pos (tones_MV h)]
    obtain ⟨xs, b, hm⟩ : ∃ xs b, mvMove a (tones l) = (xs, b) := ⟨_, _, rfl⟩
    rw [hm]
    dsimp only
    cases b with
    | false => rw [if_neg (by decide), if_neg (by decide)]
    | true =>
      have hn : xs.length = l.length := by rw [(mvMove_ok hm).1, ht]
      rw [if_pos rfl, if_pos rfl, pms_f xs (beatsOf l) _ (by omega) (by omega), Option.bind_some]
      unfold PM fin
      rw [if_pos (moved_MV (by omega) hm), if_pos (by simp [beatsOf, hn]), if_pos (zip_PV h hn (moved_tones hm))]
  · rw [if_neg h, if_neg h]
def mkV (m : Int) : S56 := ⟨⟨m, Int.tmod (m + 1) 3 == 0⟩, m + 2⟩
def marksV : Int → Nat → List S56
  | _, 0 => []
  | m, n + 1 => mkV m :: marksV (m + 3) n
theorem marksV_length (n : Nat) : ∀ m, (marksV m n).length = n := by
  induction n with
  | zero => intro m; rfl
  | succ n ih => intro m; simp [marksV, ih]
theorem markV_l0 : ∀ (xs pre : List S56) (m : Int) (k : Nat), 0 ≤ m → m + 3 * xs.length < 4611686018427387904 → (pre ++ xs).length < 4611686018427387904 → xs.length < k →
    laws_markVoiceS.l0 k (pre ++ xs) m (pre.length : Int) = some (m + 3 * xs.length, pre ++ marksV m xs.length) := by
  intro xs
  induction xs with
  | nil =>
    intro pre m k hm hb hl hk
    obtain ⟨k, rfl⟩ : ∃ m, k = m + 1 := ⟨k - 1, by omega⟩
    simp only [laws_markVoiceS.l0]
    rw [if_neg (by simp)]
    simp [marksV]
  | cons x xs ih =>
    intro pre m k hm hb hl hk
    obtain ⟨k, rfl⟩ : ∃ m, k = m + 1 := ⟨k - 1, by omega⟩
    simp only [List.length_append, List.length_cons] at hb hl hk
    simp only [laws_markVoiceS.l0, Option.bind_some]
    rw [if_pos (by simp; omega), if_pos (by omega), w0 (i := m + 1) (by omega) (by omega), w0 (i := m + 1 + 1) (by omega) (by omega), w0 (i := m + 1 + 1 + 1) (by omega) (by omega), w1 (by omega)]
    have e : ∀ (y z : S56), (pre ++ y :: xs).set ((pre.length : Int)).toNat z = pre ++ z :: xs := fun y z => by simp
    have r : ∀ (y : S56), rd_T56 (pre ++ y :: xs) (pre.length : Int) = y := fun y => by rw [rdv_at _ _ (by simp)]; simp
    simp only [e, r]
    have := ih (pre ++ [mkV m]) (m + 3) k (by omega) (by omega) (by simp; omega) (by omega)
    rw [show (⟨⟨m, Int.tmod (m + 1) 3 == 0⟩, m + 1 + 1⟩ : S56) = mkV m by unfold mkV; rw [show m + 1 + 1 = m + 2 by omega], show m + 1 + 1 + 1 = m + 3 by omega]
    simp only [List.append_assoc, List.singleton_append, List.length_append, List.length_singleton] at this
    rw [this]
    simp only [marksV, List.length_cons]
    rw [show m + 3 + 3 * (xs.length : Int) = m + 3 * ((xs.length + 1 : Nat) : Int) by omega]
theorem markV_f (xs : List S56) (k : Nat) (hb : xs.length ≤ 1048576) (hk : xs.length < k) : laws_markVoiceS.f k xs 1 = some (1 + 3 * (xs.length : Int), marksV 1 xs.length) := by
  unfold laws_markVoiceS.f
  simpa using markV_l0 xs [] 1 k (by omega) (by omega) (by simp; omega) hk
theorem heldV_l0 : ∀ (n : Nat) (pre : List S56) (m : Int) (k : Nat), 0 ≤ m → m + 3 * n < 4611686018427387904 → pre.length + n < 4611686018427387904 → n < k →
    laws_heldVoiceS.l0 k (pre ++ marksV m n) m (pre.length : Int) = some (m + 3 * n) := by
  intro n
  induction n with
  | zero =>
    intro pre m k hm hb hl hk
    obtain ⟨k, rfl⟩ : ∃ m, k = m + 1 := ⟨k - 1, by omega⟩
    simp only [laws_heldVoiceS.l0]
    rw [if_neg (by simp [marksV])]
    simp
  | succ n ih =>
    intro pre m k hm hb hl hk
    obtain ⟨k, rfl⟩ : ∃ m, k = m + 1 := ⟨k - 1, by omega⟩
    have em : marksV m (n + 1) = mkV m :: marksV (m + 3) n := rfl
    have r : rd_T56 (pre ++ mkV m :: marksV (m + 3) n) (pre.length : Int) = mkV m := by rw [rdv_at _ _ (by simp)]; simp
    rw [em, laws_heldVoiceS.l0, if_pos (by simp only [List.length_append, List.length_cons, marksV_length]; omega), if_pos (by omega), r, w0 (i := m + 1) (by omega) (by omega), w0 (i := m + 1 + 1) (by omega) (by omega), w0 (i := m + 1 + 1 + 1) (by omega) (by omega), w1 (by omega)]
    rw [if_pos (show (mkV m).f0.f0 = m from rfl), if_neg (show ¬ (((mkV m).f0.f1 != (Int.tmod (m + 1) 3 == 0)) = true) by simp [mkV]), if_pos (show (mkV m).f1 = m + 1 + 1 by simp only [mkV]; omega)]
    have := ih (pre ++ [mkV m]) (m + 3) k (by omega) (by omega) (by simp; omega) (by omega)
    simp only [List.append_assoc, List.singleton_append, List.length_append, List.length_singleton] at this
    rw [show m + 1 + 1 + 1 = m + 3 by omega, this, show m + 3 + 3 * (n : Int) = m + 3 * ((n + 1 : Nat) : Int) by omega]
theorem heldV_f (n : Nat) (k : Nat) (hb : n ≤ 1048576) (hk : n < k) : laws_heldVoiceS.f k (marksV 1 n) 1 = some (1 + 3 * (n : Int)) := by
  unfold laws_heldVoiceS.f
  simpa using heldV_l0 n [] 1 k (by omega) (by omega) (by simp; omega) hk
theorem DMV_len (l : List S56) (a : Int) : (DMV l a).1.length ≤ 12 := by
  unfold DMV
  split
  · rename_i h
    have := PV_len h
    split
    · rw [List.length_zipWith]
      have : (beatsOf l).length = l.length := by simp [beatsOf]
      show min _ _ ≤ 12
      omega
    · simp
  · simp
theorem FnExactDiscantMove : ∀ (l0 : List S69) (a1 : Int), l0.length ≤ maxLen → (Lit.int .i64 a1).wf = true → ∃ k, laws_FnExactDiscantMove.f k l0 a1 = some true := by
  intro l a1 hl ha
  have hl2 : l.length ≤ 9223372036854775807 := by unfold maxLen at hl; exact hl
  have e := szVoiceS_f l 1048576 (by omega) (by omega) hl2
  by_cases h : l.length ≤ 1048576
  · rw [if_pos (by omega)] at e
    obtain ⟨m, hm⟩ : ∃ m, m = l.map conv := ⟨_, rfl⟩
    have hml : m.length = l.length := by rw [hm]; simp
    have t : ∀ k, l.length < k → laws_toVoiceS.f k l = some m := fun k hk => by rw [hm]; exact toVoiceS_f l k h hk
    obtain ⟨p, hp⟩ : ∃ p, p = DMV m a1 := ⟨_, rfl⟩
    have hpl : p.1.length ≤ 12 := by rw [hp]; exact DMV_len m a1
    refine ⟨l.length + 440, ?_⟩
    unfold laws_FnExactDiscantMove.f
    rw [e, Option.bind_some, if_neg (by omega)]
    simp (disch := omega) only [t, dms_f, dmi_f, ← hp, eqVoiceS_f, Option.bind_some, bne_self_eq_false, if_true]
    rw [laws_FnExactDiscantMove.j0, if_neg (by decide)]
    simp (disch := omega) only [t, eqVoiceS_f, markV_f, Option.bind_some, if_true]
    rw [if_neg (by omega)]
    simp (disch := omega) only [bne_self_eq_false]
    rw [laws_FnExactDiscantMove.j1, if_neg (by decide)]
    simp (disch := omega) only [markV_f, heldV_f, Option.bind_some]
    rw [if_neg (by omega)]
    simp (disch := omega) only [t, dmi_f, ← hp, eqVoiceS_f, Option.bind_some, bne_self_eq_false, if_true]
    rw [laws_FnExactDiscantMove.j2, if_neg (by decide)]
    simp (disch := omega) only [heldV_f, Option.bind_some]
    rw [if_neg (by omega), if_pos trivial]
  · rw [if_neg (by omega)] at e
    refine ⟨0, ?_⟩
    unfold laws_FnExactDiscantMove.f
    rw [e]
    rfl

end Go.Proofs.YtgiobmceippanaaDoor.PureFnExactDiscantMove
