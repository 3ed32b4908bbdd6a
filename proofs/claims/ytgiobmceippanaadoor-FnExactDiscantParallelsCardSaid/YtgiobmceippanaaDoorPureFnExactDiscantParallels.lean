/- FnExactDiscantParallels: for every two lists of voices with at most 1048576 of them the program's DiscantParallels answers as the reference's does, and leaves its arguments alone (longer lists the statement lets pass). The tables letterHeights and leastSemis are tied to the program's text. No condition beyond the statement's own. -/
import Derived.Test.YtgiobmceippanaaDoorGPx0
import Derived.Test.YtgiobmceippanaaDoorGPx1
import Derived.Test.YtgiobmceippanaaDoorGPx3
import Derived.Test.YtgiobmceippanaaDoorGPx4
import Derived.Test.YtgiobmceippanaaDoorGPx2
import Derived.Test.YtgiobmceippanaaDoorGPx6
import Derived.Test.YtgiobmceippanaaDoorGPx7
import Derived.Test.YtgiobmceippanaaDoorGPx8
namespace Go.Proofs.YtgiobmceippanaaDoor.PureFnExactDiscantParallels
open Go.RowKit Go.Proofs.YtgiobmceippanaaDoor.GP Go.Proofs.YtgiobmceippanaaDoorW.PrintWords Go.Proofs.YtgiobmceippanaaDoorW.PrintLast Go.Proofs.YtgiobmceippanaaDoorW.PrintMore 
set_option linter.unusedVariables false
set_option linter.unusedSimpArgs false
theorem w1 {i : Nat} (h : i < 4611686018427387904) : wrap64 ((i : Int) + 1) = ((i + 1 : Nat) : Int) := by
  unfold wrap64
  omega
theorem w0 {i : Int} (h : -9223372036854775808 ≤ i) (h' : i ≤ 9223372036854775807) : wrap64 i = i := by
  unfold wrap64
  omega
theorem rd_at (xs : List Int) (i : Nat) (h : i < xs.length) : rd xs (i : Int) = xs[i] := by
  simp [rd, List.getD_eq_getElem?_getD, h]
/-- A tone of the gamut. -/
def tv (a : Int) (b : Bool) : Bool := decide (0 ≤ a) && (decide (a ≤ 20) && (!b || decide (Int.tmod a 7 = 2)))
theorem tv_spec (a : Int) (b : Bool) : spec_ToneValid.f a b = some (tv a b) := by
  unfold spec_ToneValid.f spec_l6In.f spec_l1Letter.f tv
  by_cases h0 : a ≥ 0
  · rw [if_pos h0, decide_eq_true (show 0 ≤ a from h0)]
    by_cases h1 : a ≤ 20
    · simp only [h1, decide_true, Option.bind_some, if_true, Bool.true_and]
      cases b
      · rfl
      · simp
        rfl
    · simp [h1]
  · rw [if_neg h0, decide_eq_false (show ¬ 0 ≤ a from h0)]
    rfl
theorem tv_impl (a : Int) (b : Bool) : impl_Tone_valid.f a b = some (tv a b) := by
  unfold impl_Tone_valid.f tv
  by_cases h0 : a ≥ 0
  · rw [if_pos h0, decide_eq_true (show 0 ≤ a from h0)]
    by_cases h1 : a ≤ 20
    · rw [if_pos h1, decide_eq_true h1]
      cases b
      · rfl
      · simp
        rfl
    · rw [if_neg h1, decide_eq_false h1]
      rfl
  · rw [if_neg h0, decide_eq_false (show ¬ 0 ≤ a from h0)]
    rfl
theorem in_spec (a b c : Int) : spec_l6In.f a b c = some (decide (b ≤ a) && decide (a ≤ c)) := by
  unfold spec_l6In.f
  by_cases h0 : a ≥ b
  · rw [if_pos h0, decide_eq_true (show b ≤ a from h0)]; rfl
  · rw [if_neg h0, decide_eq_false (show ¬ b ≤ a from h0)]; rfl
def vv (v : S56) : Bool := tv v.f0.f0 v.f0.f1 && (decide (1 ≤ v.f1) && decide (v.f1 ≤ 3))
theorem rdv_at (xs : List S56) (i : Nat) (h : i < xs.length) : rd_T56 xs (i : Int) = xs[i] := by
  simp [rd_T56, List.getD_eq_getElem?_getD, h]
theorem rdlv_at (xs : List S69) (i : Nat) (h : i < xs.length) : rd_T69 xs (i : Int) = xs[i] := by
  simp [rd_T69, List.getD_eq_getElem?_getD, h]
def conv (v : S69) : S56 := ⟨⟨v.f0.f0, v.f0.f1⟩, v.f1⟩
theorem toVoiceS_l0 : ∀ (xs : List S69) (zs pre : List S56) (pre0 : List S69) (k : Nat), zs.length = xs.length → pre.length = pre0.length → (pre0 ++ xs).length < 4611686018427387904 → xs.length < k → laws_toVoiceS.l0 k (pre0 ++ xs) (pre ++ zs) (pre0.length : Int) = some (pre ++ xs.map conv) := by
  intro xs
  induction xs with
  | nil =>
    intro zs pre pre0 k hz hp hb hk
    obtain ⟨k, rfl⟩ : ∃ m, k = m + 1 := ⟨k - 1, by omega⟩
    simp only [laws_toVoiceS.l0]
    rw [if_neg (by simp)]
    have : zs = [] := List.length_eq_zero_iff.mp hz
    rw [this]
    rfl
  | cons x xs ih =>
    intro zs pre pre0 k hz hp hb hk
    obtain ⟨k, rfl⟩ : ∃ m, k = m + 1 := ⟨k - 1, by omega⟩
    match zs, hz with
    | z :: zs, hz =>
    simp only [List.length_append, List.length_cons] at hb hk hz
    have hq : pre0.length < (pre0 ++ x :: xs).length := by simp
    have hq2 : pre0.length < (pre ++ z :: zs).length := by simp [hp]
    have e1 : (pre0 ++ x :: xs)[pre0.length]'hq = x := by simp
    simp only [laws_toVoiceS.l0]
    rw [if_pos (by omega), if_pos (by omega), rdlv_at _ _ hq, e1]
    simp only [laws_toVoice.f, laws_toTone.f, Option.bind_some]
    rw [if_pos (by omega), w1 (by omega)]
    have e2 : (pre ++ z :: zs).set ((pre0.length : Int)).toNat (conv x) = (pre ++ [conv x]) ++ zs := by simp [← hp]
    have := ih zs (pre ++ [conv x]) (pre0 ++ [x]) k (by omega) (by simp [hp]) (by simp; omega) (by omega)
    rw [show (⟨⟨x.f0.f0, x.f0.f1⟩, x.f1⟩ : S56) = conv x from rfl, e2]
    simpa using this
theorem toVoiceS_f (xs : List S69) (k : Nat) (hb : xs.length ≤ 1048576) (hk : xs.length < k) : laws_toVoiceS.f k xs = some (xs.map conv) := by
  unfold laws_toVoiceS.f
  rw [if_pos (by omega), if_pos (by omega)]
  simpa using toVoiceS_l0 xs (List.replicate xs.length z56) [] [] k (by simp) rfl (by simp; omega) hk
theorem eqVoice_self (v : S56) : laws_eqVoice.f v.f0.f0 v.f0.f1 v.f1 v.f0.f0 v.f0.f1 v.f1 = some true := by
  simp [laws_eqVoice.f, laws_eqTone.f]
theorem eqVoiceS_l0 (xs : List S56) (hb : xs.length < 4611686018427387904) : ∀ (d i k : Nat), i + d = xs.length → d < k → laws_eqVoiceS.l0 k xs xs (i : Int) = some true := by
  intro d
  induction d with
  | zero =>
    intro i k hi hk
    obtain ⟨k, rfl⟩ : ∃ m, k = m + 1 := ⟨k - 1, by omega⟩
    simp only [laws_eqVoiceS.l0]
    rw [if_neg (by omega)]
  | succ d ih =>
    intro i k hi hk
    obtain ⟨k, rfl⟩ : ∃ m, k = m + 1 := ⟨k - 1, by omega⟩
    simp only [laws_eqVoiceS.l0]
    rw [if_pos (by omega), if_pos (by omega), if_pos (by omega), rdv_at xs i (by omega), eqVoice_self]
    simp only [Option.bind_some, if_true]
    rw [w1 (by omega)]
    exact ih (i + 1) k (by omega) (by omega)
theorem eqVoiceS_f (xs : List S56) (k : Nat) (hb : xs.length ≤ 1048576) (hk : xs.length < k) : laws_eqVoiceS.f k xs xs = some true := by
  unfold laws_eqVoiceS.f
  rw [if_pos rfl]
  simpa using eqVoiceS_l0 xs (by omega) xs.length 0 k (by omega) hk
theorem szVoiceS_f (xs : List S69) (a : Int) (h0 : 0 ≤ a) (h1 : a ≤ 1048576) (hl : xs.length ≤ 9223372036854775807) : laws_szVoiceS.f xs a = some (if (xs.length : Int) ≤ a then a - xs.length else -1) := by
  unfold laws_szVoiceS.f
  rw [w0 (by omega) (by omega)]
  by_cases h : (xs.length : Int) ≤ a
  · rw [if_neg (by omega), if_pos h]
  · rw [if_pos (by omega), if_neg h]
def sumB (l : List S56) : Int := (l.map (·.f1)).sum
theorem sumB_cons (v : S56) (l : List S56) : sumB (v :: l) = v.f1 + sumB l := by simp [sumB]
theorem vv_bd {v : S56} (h : vv v = true) : 1 ≤ v.f1 ∧ v.f1 ≤ 3 := by
  unfold vv at h
  simp only [Bool.and_eq_true, decide_eq_true_eq] at h
  exact h.2
theorem sumB_bd (l : List S56) (h : l.all vv = true) : 0 ≤ sumB l ∧ sumB l ≤ 3 * l.length := by
  induction l with
  | nil => simp [sumB]
  | cons v l ih =>
    simp only [List.all_cons, Bool.and_eq_true] at h
    have h1 := vv_bd h.1
    have h2 := ih h.2
    rw [sumB_cons, List.length_cons]
    omega
def PV (l : List S56) : Bool := decide (l.length ≤ 12) && (l.all vv && decide (sumB l ≤ 24))
theorem PV_len {l : List S56} (h : PV l = true) : l.length ≤ 12 := by
  unfold PV at h
  simp only [Bool.and_eq_true, decide_eq_true_eq] at h
  exact h.1
theorem PV_all {l : List S56} (h : PV l = true) : l.all vv = true := by
  unfold PV at h
  simp only [Bool.and_eq_true, decide_eq_true_eq] at h
  exact h.2.1
theorem PV_sum {l : List S56} (h : PV l = true) : sumB l ≤ 24 := by
  unfold PV at h
  simp only [Bool.and_eq_true, decide_eq_true_eq] at h
  exact h.2.2
theorem beats_l0 (l : List S56) (hl : l.length ≤ 12) (hv : l.all vv = true) : ∀ (d i k : Nat) (a : Int), i + d = l.length → d < k → 0 ≤ a → a ≤ 3 * i → spec_l8Beats.l0 k l a (i : Int) = some (a + sumB (l.drop i)) := by
  intro d
  induction d with
  | zero =>
    intro i k a hi hk h0 h1
    obtain ⟨k, rfl⟩ : ∃ m, k = m + 1 := ⟨k - 1, by omega⟩
    simp only [spec_l8Beats.l0]
    rw [if_neg (by omega), List.drop_eq_nil_of_le (by omega)]
    simp [sumB]
  | succ d ih =>
    intro i k a hi hk h0 h1
    obtain ⟨k, rfl⟩ : ∃ m, k = m + 1 := ⟨k - 1, by omega⟩
    have hx : i < l.length := by omega
    have hb := vv_bd (List.all_eq_true.1 hv _ (List.getElem_mem hx))
    simp only [spec_l8Beats.l0]
    rw [if_pos (by omega), if_pos (by omega), rdv_at l i hx, w1 (by omega), w0 (by omega) (by omega), ih (i + 1) k _ (by omega) (by omega) (by omega) (by omega), List.drop_eq_getElem_cons hx, sumB_cons]
    congr 1
    omega
theorem beats_f (l : List S56) (hl : l.length ≤ 12) (hv : l.all vv = true) (k : Nat) (hk : 13 ≤ k) : spec_l8Beats.f k l = some (sumB l) := by
  unfold spec_l8Beats.f
  simpa using beats_l0 l hl hv l.length 0 k 0 (by omega) (by omega) (by omega) (by omega)
theorem pvs_l0 (l : List S56) (hb : l.length < 4611686018427387904) : ∀ (d i k : Nat), i + d = l.length → d + 14 < k → (l.take i).all vv = true → spec_PartValid.l0 k l (i : Int) = some (PV l) := by
  intro d
  induction d with
  | zero =>
    intro i k hi hk hv
    obtain ⟨k, rfl⟩ : ∃ m, k = m + 1 := ⟨k - 1, by omega⟩
    rw [List.take_of_length_le (by omega)] at hv
    simp only [spec_PartValid.l0]
    rw [if_neg (by omega)]
    unfold PV
    rw [hv]
    by_cases hl : l.length ≤ 12
    · rw [if_pos (by omega), beats_f l hl hv k (by omega), decide_eq_true hl]
      rfl
    · rw [if_neg (by omega), decide_eq_false hl]
      rfl
  | succ d ih =>
    intro i k hi hk hv
    obtain ⟨k, rfl⟩ : ∃ m, k = m + 1 := ⟨k - 1, by omega⟩
    have hx : i < l.length := by omega
    simp only [spec_PartValid.l0]
    rw [if_pos (by omega), if_pos (by omega), rdv_at l i hx, tv_spec, in_spec]
    simp only [Option.bind_some]
    by_cases hvi : vv l[i] = true
    · have hvi2 := hvi
      unfold vv at hvi2
      simp only [Bool.and_eq_true] at hvi2
      rw [if_pos hvi2.1, if_pos (by simpa using hvi2.2), w1 (by omega)]
      refine ih (i + 1) k (by omega) (by omega) ?_
      rw [List.take_succ_eq_append_getElem hx, List.all_append, hv]
      simp [hvi]
    · have hF : PV l = false := by
        have : l.all vv = false := by
          rw [Bool.eq_false_iff]
          intro h
          exact hvi (List.all_eq_true.1 h _ (List.getElem_mem hx))
        unfold PV
        rw [this]
        simp
      rw [hF]
      unfold vv at hvi
      by_cases h1 : tv l[i].f0.f0 l[i].f0.f1 = true
      · rw [if_pos h1]
        rw [h1, Bool.true_and] at hvi
        rw [if_neg hvi]
      · rw [if_neg h1]
theorem pvs_f (l : List S56) (hb : l.length ≤ 1048576) (k : Nat) (hk : l.length + 15 < k) : spec_PartValid.f k l = some (PV l) := by
  unfold spec_PartValid.f
  simpa using pvs_l0 l (by omega) l.length 0 k (by omega) (by omega) (by simp)
theorem pvi_l0 (l : List S56) (hl : l.length ≤ 12) : ∀ (d i k : Nat) (a : Int), i + d = l.length → d < k → 0 ≤ a → a ≤ 3 * i → impl_PartValid.l0 k a l (l.length : Int) (i : Int) = some ((l.drop i).all vv && decide (a + sumB (l.drop i) ≤ 24)) := by
  intro d
  induction d with
  | zero =>
    intro i k a hi hk h0 h1
    obtain ⟨k, rfl⟩ : ∃ m, k = m + 1 := ⟨k - 1, by omega⟩
    simp only [impl_PartValid.l0]
    rw [if_neg (by omega), List.drop_eq_nil_of_le (by omega)]
    simp [sumB]
  | succ d ih =>
    intro i k a hi hk h0 h1
    obtain ⟨k, rfl⟩ : ∃ m, k = m + 1 := ⟨k - 1, by omega⟩
    have hx : i < l.length := by omega
    simp only [impl_PartValid.l0]
    rw [if_pos (by omega), if_pos (by omega), if_pos (by omega), rdv_at l i hx, tv_impl, List.drop_eq_getElem_cons hx, sumB_cons, List.all_cons]
    simp only [Option.bind_some]
    by_cases ht : tv l[i].f0.f0 l[i].f0.f1 = true
    · rw [if_pos ht]
      by_cases h3 : l[i].f1 < 1
      · rw [if_pos h3]
        have : vv l[i] = false := by unfold vv; rw [decide_eq_false (show ¬ 1 ≤ l[i].f1 by omega)]; simp
        rw [this]
        rfl
      · rw [if_neg h3]
        by_cases h4 : l[i].f1 > 3
        · rw [if_pos h4]
          have : vv l[i] = false := by unfold vv; rw [decide_eq_false (show ¬ l[i].f1 ≤ 3 by omega)]; simp
          rw [this]
          rfl
        · have : vv l[i] = true := by unfold vv; rw [ht, decide_eq_true (show 1 ≤ l[i].f1 by omega), decide_eq_true (show l[i].f1 ≤ 3 by omega)]; rfl
          rw [if_neg h4, w1 (by omega), w0 (by omega) (by omega), ih (i + 1) k _ (by omega) (by omega) (by omega) (by omega), this, Bool.true_and, Int.add_assoc]
    · rw [if_neg ht]
      have : vv l[i] = false := by unfold vv; rw [Bool.eq_false_iff.mpr ht]; rfl
      rw [this]
      rfl
theorem pvi_f (l : List S56) (k : Nat) (hk : 13 ≤ k) : impl_PartValid.f k l = some (PV l) := by
  unfold impl_PartValid.f PV
  by_cases hl : l.length ≤ 12
  · rw [if_neg (by omega), decide_eq_true hl, Bool.true_and]
    simpa using pvi_l0 l hl l.length 0 k 0 (by omega) (by omega) (by omega) (by omega)
  · rw [if_pos (by omega), decide_eq_false hl]
    rfl
theorem expand_cons (v : S56) (l : List S56) : expand (v :: l) = List.replicate v.f1.toNat v.f0 ++ expand l := by simp [expand]
theorem expand_sum (l : List S56) (h : l.all vv = true) : ((expand l).length : Int) = sumB l := by
  induction l with
  | nil => rfl
  | cons v l ih =>
    simp only [List.all_cons, Bool.and_eq_true] at h
    have h1 := vv_bd h.1
    have h2 := ih h.2
    rw [expand_cons, sumB_cons, List.length_append, List.length_replicate]
    omega
theorem at_l0 (l : List S56) (hv : l.all vv = true) (hl : l.length ≤ 12) : ∀ (d i k : Nat) (b : Int), i + d = l.length → d ≤ k → 0 ≤ b → b < ((expand (l.drop i)).length : Int) → spec_l8At.l0 k l b (i : Int) = some (((expand (l.drop i)).getD b.toNat z49).f0, ((expand (l.drop i)).getD b.toNat z49).f1) := by
  intro d
  induction d with
  | zero =>
    intro i k b hi hk h0 h1
    rw [List.drop_eq_nil_of_le (by omega)] at h1
    simp [expand] at h1
    omega
  | succ d ih =>
    intro i k b hi hk h0 h1
    obtain ⟨k, rfl⟩ : ∃ m, k = m + 1 := ⟨k - 1, by omega⟩
    have hx : i < l.length := by omega
    have hb := vv_bd (List.all_eq_true.1 hv _ (List.getElem_mem hx))
    rw [List.drop_eq_getElem_cons hx, expand_cons] at h1 ⊢
    rw [List.length_append, List.length_replicate] at h1
    simp only [spec_l8At.l0]
    rw [if_pos (by omega), if_pos (by omega), rdv_at l i hx]
    by_cases hge : b ≥ l[i].f1
    · have hlen := expand_len (l.drop (i + 1)) (fun v hv' => (vv_bd (List.all_eq_true.1 hv v (List.mem_of_mem_drop hv'))).2)
      rw [List.length_drop] at hlen
      rw [if_pos hge, w1 (by omega), w0 (by omega) (by omega), ih (i + 1) k _ (by omega) (by omega) (by omega) (by omega)]
      rw [List.getD_eq_getElem?_getD, List.getD_eq_getElem?_getD, List.getElem?_append_right (by rw [List.length_replicate]; omega), List.length_replicate, show (b - l[i].f1).toNat = b.toNat - l[i].f1.toNat by omega]
    · rw [if_neg hge]
      rw [List.getD_eq_getElem?_getD, List.getElem?_append_left (by rw [List.length_replicate]; omega), List.getElem?_replicate, if_pos (by omega)]
      rfl
theorem at_f (l : List S56) (hv : l.all vv = true) (hl : l.length ≤ 12) (b : Int) (k : Nat) (hk : 12 ≤ k) (h0 : 0 ≤ b) (h1 : b < ((expand l).length : Int)) : spec_l8At.f k l b = some (((expand l).getD b.toNat z49).f0, ((expand l).getD b.toNat z49).f1) := by
  unfold spec_l8At.f
  simpa using at_l0 l hv hl l.length 0 k b (by omega) (by omega) h0 (by simpa using h1)
def PB (l : List S56) : Int := if PV l = true then sumB l else -1
theorem pbs_f (l : List S56) (hb : l.length ≤ 1048576) (k : Nat) (hk : l.length + 15 < k) : spec_PartBeats.f k l = some (PB l) := by
  unfold spec_PartBeats.f PB
  rw [pvs_f l hb k hk]
  simp only [Option.bind_some]
  by_cases h : PV l = true
  · rw [if_pos h, if_pos h, beats_f l (PV_len h) (PV_all h) k (by omega)]
    rfl
  · rw [if_neg h, if_neg h]
def TG (l0 l1 : List S56) : Bool := PV l0 && (PV l1 && decide (sumB l0 = sumB l1))
theorem TG_0 {l0 l1 : List S56} (h : TG l0 l1 = true) : PV l0 = true := by
  unfold TG at h
  simp only [Bool.and_eq_true] at h
  exact h.1
theorem TG_1 {l0 l1 : List S56} (h : TG l0 l1 = true) : PV l1 = true := by
  unfold TG at h
  simp only [Bool.and_eq_true] at h
  exact h.2.1
theorem TG_2 {l0 l1 : List S56} (h : TG l0 l1 = true) : sumB l0 = sumB l1 := by
  unfold TG at h
  simp only [Bool.and_eq_true, decide_eq_true_eq] at h
  exact h.2.2
def PS (l0 l1 : List S56) : List S51 := pairs (expand l0) (expand l1)
theorem so_f (l0 l1 : List S56) (k : Nat) (hk : 13 ≤ k) : impl_soundsOf.f k l0 l1 = some (if TG l0 l1 = true then (PS l0 l1, true) else ([], false)) := by
  unfold impl_soundsOf.f
  rw [pvi_f l0 k hk, pvi_f l1 k hk]
  simp only [Option.bind_some]
  congr 1
  by_cases h0 : PV l0 = true
  · by_cases h1 : PV l1 = true
    · have e0 := expand_sum l0 (PV_all h0)
      have e1 := expand_sum l1 (PV_all h1)
      by_cases h2 : sumB l0 = sumB l1
      · rw [if_pos ⟨h0, h1, by omega⟩, if_pos (by unfold TG; rw [h0, h1, decide_eq_true h2]; rfl)]
        rfl
      · rw [if_neg (fun z => h2 (by omega)), if_neg (by unfold TG; rw [h0, h1, decide_eq_false h2]; simp)]
    · rw [if_neg (fun z => h1 z.2.1), if_neg (fun z => h1 (TG_1 z))]
  · rw [if_neg (fun z => h0 z.1), if_neg (fun z => h0 (TG_0 z))]
theorem tg_f (l0 l1 : List S56) (hb0 : l0.length ≤ 1048576) (hb1 : l1.length ≤ 1048576) (k : Nat) (hk : l0.length + l1.length + 15 < k) : spec_DiscantTogether.f k l0 l1 = some (TG l0 l1) := by
  unfold spec_DiscantTogether.f
  rw [pbs_f l0 hb0 k (by omega), pbs_f l1 hb1 k (by omega)]
  simp only [Option.bind_some]
  unfold PB TG
  by_cases h0 : PV l0 = true
  · have b0 := (sumB_bd l0 (PV_all h0)).1
    rw [if_pos h0, if_pos (by omega), h0, Bool.true_and]
    by_cases h1 : PV l1 = true
    · rw [if_pos h1, h1, Bool.true_and]
      rfl
    · rw [if_neg h1, Bool.eq_false_iff.mpr h1, Bool.false_and]
      congr 1
      rw [beq_eq_false_iff_ne]
      omega
  · rw [if_neg h0, if_neg (by omega), Bool.eq_false_iff.mpr h0]
    rfl
theorem PS_len {l0 l1 : List S56} (h : TG l0 l1 = true) : ((PS l0 l1).length : Int) = sumB l0 := by
  have e0 := expand_sum l0 (PV_all (TG_0 h))
  have e1 := expand_sum l1 (PV_all (TG_1 h))
  have e2 := TG_2 h
  unfold PS pairs
  rw [List.length_zipWith]
  omega
theorem PS_bd {l0 l1 : List S56} (h : TG l0 l1 = true) : (PS l0 l1).length ≤ 24 := by
  have e0 := PS_len h
  have := PV_sum (TG_0 h)
  omega
theorem rdp_at (xs : List S51) (i : Nat) (h : i < xs.length) : rd_T51 xs (i : Int) = xs[i] := by
  simp [rd_T51, List.getD_eq_getElem?_getD, h]
theorem PS_at {l0 l1 : List S56} (h : TG l0 l1 = true) (b : Nat) (hb : b < (PS l0 l1).length) (k : Nat) (hk : 12 ≤ k) : spec_l8At.f k l0 (b : Int) = some ((PS l0 l1)[b].f0.f0, (PS l0 l1)[b].f0.f1) ∧ spec_l8At.f k l1 (b : Int) = some ((PS l0 l1)[b].f1.f0, (PS l0 l1)[b].f1.f1) := by
  have e0 := expand_sum l0 (PV_all (TG_0 h))
  have e1 := expand_sum l1 (PV_all (TG_1 h))
  have e2 := TG_2 h
  have e3 := PS_len h
  have h0 : b < (expand l0).length := by omega
  have h1 : b < (expand l1).length := by omega
  rw [at_f l0 (PV_all (TG_0 h)) (PV_len (TG_0 h)) b k hk (by omega) (by omega), at_f l1 (PV_all (TG_1 h)) (PV_len (TG_1 h)) b k hk (by omega) (by omega)]
  have g0 : (PS l0 l1)[b].f0 = (expand l0)[b] := by simp [PS, pairs]
  have g1 : (PS l0 l1)[b].f1 = (expand l1)[b] := by simp [PS, pairs]
  rw [g0, g1]
  simp [List.getD_eq_getElem?_getD, h0, h1]
theorem beats_tg {l0 l1 : List S56} (h : TG l0 l1 = true) (k : Nat) (hk : 13 ≤ k) : spec_l8Beats.f k l0 = some ((PS l0 l1).length : Int) := by
  rw [beats_f l0 (PV_len (TG_0 h)) (PV_all (TG_0 h)) k hk, PS_len h]
/-- What the laws on two parts have in common: both lists are copied, and compared with their copies behind the call. -/
theorem both_lists (l0 l1 : List S69) (hl0 : l0.length ≤ maxLen) (hl1 : l1.length ≤ maxLen) :
    (¬ l0.length ≤ 1048576 ∧ laws_szVoiceS.f l0 1048576 = some (-1)) ∨
    ((l0.length ≤ 1048576 ∧ laws_szVoiceS.f l0 1048576 = some (1048576 - (l0.length : Int))) ∧
      ((¬ (l1.length : Int) ≤ 1048576 - (l0.length : Int) ∧ laws_szVoiceS.f l1 (1048576 - (l0.length : Int)) = some (-1)) ∨
       (l0.length + l1.length ≤ 1048576 ∧ laws_szVoiceS.f l1 (1048576 - (l0.length : Int)) = some (1048576 - (l0.length : Int) - (l1.length : Int))))) := by
  have h0 : l0.length ≤ 9223372036854775807 := by unfold maxLen at hl0; exact hl0
  have h1 : l1.length ≤ 9223372036854775807 := by unfold maxLen at hl1; exact hl1
  have e := szVoiceS_f l0 1048576 (by omega) (by omega) h0
  by_cases h : l0.length ≤ 1048576
  · right
    rw [if_pos (by omega)] at e
    refine ⟨⟨h, e⟩, ?_⟩
    have e1 := szVoiceS_f l1 (1048576 - (l0.length : Int)) (by omega) (by omega) h1
    by_cases h' : (l1.length : Int) ≤ 1048576 - (l0.length : Int)
    · right
      rw [if_pos h'] at e1
      exact ⟨by omega, e1⟩
    · left
      rw [if_neg h'] at e1
      exact ⟨h', e1⟩
  · left
    rw [if_neg (by omega)] at e
    exact ⟨h, e⟩
def CC (a : Int) (b : Bool) (c : Int) (d : Bool) : Bool := (spec_l8Concord.f 14 a b c d).getD false
theorem cc_fin : ∀ b d : Bool, ∀ n : Nat, n < 21 → ∀ m : Nat, m < 21 → (if (tv (n : Int) b && tv (m : Int) d) = true then decide (spec_l8Concord.f 14 (n : Int) b (m : Int) d = some (CC (n : Int) b (m : Int) d) ∧ impl_soundPair_concord.f 14 (n : Int) b (m : Int) d = some (CC (n : Int) b (m : Int) d)) else true) = true := by decide +kernel
theorem cc_both (a : Int) (b : Bool) (c : Int) (d : Bool) (h1 : tv a b = true) (h2 : tv c d = true) : spec_l8Concord.f 14 a b c d = some (CC a b c d) ∧ impl_soundPair_concord.f 14 a b c d = some (CC a b c d) := by
  have g1 := h1
  have g2 := h2
  unfold tv at g1 g2
  simp only [Bool.and_eq_true, decide_eq_true_eq] at g1 g2
  obtain ⟨n, rfl⟩ := Int.eq_ofNat_of_zero_le g1.1
  obtain ⟨m, rfl⟩ := Int.eq_ofNat_of_zero_le g2.1
  have := cc_fin b d n (by omega) m (by omega)
  rw [h1, h2, if_pos (by rfl)] at this
  exact of_decide_eq_true this
theorem cci_f (a : Int) (b : Bool) (c : Int) (d : Bool) (h1 : tv a b = true) (h2 : tv c d = true) (k : Nat) (hk : 14 ≤ k) : impl_soundPair_concord.f k a b c d = some (CC a b c d) :=
  at_rounds (impl_soundPair_concord.mono _ _ _ _) hk (cc_both a b c d h1 h2).2
theorem ccs_f (a : Int) (b : Bool) (c : Int) (d : Bool) (h1 : tv a b = true) (h2 : tv c d = true) (k : Nat) (hk : 14 ≤ k) : spec_l8Concord.f k a b c d = some (CC a b c d) :=
  at_rounds (spec_l8Concord.mono _ _ _ _) hk (cc_both a b c d h1 h2).1
/-- Both tones are valid. -/
def pv (p : S51) : Prop := tv p.f0.f0 p.f0.f1 = true ∧ tv p.f1.f0 p.f1.f1 = true
def cp (p : S51) : Bool := CC p.f0.f0 p.f0.f1 p.f1.f0 p.f1.f1
def pvs (ps : List S51) : Prop := ∀ p ∈ ps, pv p
theorem exp_tv {a : List S56} (h : PV a = true) : ∀ t ∈ expand a, tv t.f0 t.f1 = true := by
  intro t ht
  obtain ⟨v, hv, hr⟩ := List.mem_flatMap.1 (show t ∈ a.flatMap fun v => List.replicate v.f1.toNat v.f0 by simpa [expand] using ht)
  have e := List.eq_of_mem_replicate hr
  have hvv := List.all_eq_true.1 (PV_all h) v hv
  unfold vv at hvv
  rw [Bool.and_eq_true] at hvv
  rw [e]
  exact hvv.1
theorem pairs_mem {xs : List S49} : ∀ {ys : List S49} {p : S51}, p ∈ pairs xs ys → p.f0 ∈ xs ∧ p.f1 ∈ ys := by
  induction xs with
  | nil => intro ys p hp; simp [pairs] at hp
  | cons x xs ih =>
    intro ys p hp
    cases ys with
    | nil => simp [pairs] at hp
    | cons y ys =>
      have hp' : p = ⟨x, y⟩ ∨ p ∈ pairs xs ys := by simpa [pairs] using hp
      rcases hp' with rfl | hp'
      · exact ⟨List.mem_cons_self .., List.mem_cons_self ..⟩
      · have := ih hp'
        exact ⟨List.mem_cons_of_mem _ this.1, List.mem_cons_of_mem _ this.2⟩
theorem PS_pv {l0 l1 : List S56} (h : TG l0 l1 = true) : pvs (PS l0 l1) := fun p hp => by
  have := pairs_mem (show p ∈ pairs (expand l0) (expand l1) from hp)
  exact ⟨exp_tv (TG_0 h) _ this.1, exp_tv (TG_1 h) _ this.2⟩
def cAt (ps : List S51) (i : Nat) : Bool := (ps[i]?.map cp).getD false
theorem cAt_eq {ps : List S51} {i : Nat} (h : i < ps.length) : cAt ps i = cp ps[i] := by
  unfold cAt
  rw [List.getElem?_eq_getElem h]
  rfl
theorem ic_at {ps : List S51} (h : pvs ps) (i : Nat) (hi : i < ps.length) (k : Nat) (hk : 14 ≤ k) : impl_soundPair_concord.f k ps[i].f0.f0 ps[i].f0.f1 ps[i].f1.f0 ps[i].f1.f1 = some (cAt ps i) := by
  have := h ps[i] (List.getElem_mem hi)
  rw [cAt_eq hi]
  exact cci_f _ _ _ _ this.1 this.2 k hk
theorem sc_at {l0 l1 : List S56} (h : TG l0 l1 = true) (i : Nat) (hi : i < (PS l0 l1).length) (k : Nat) (hk : 14 ≤ k) : spec_l8Concord.f k (PS l0 l1)[i].f0.f0 (PS l0 l1)[i].f0.f1 (PS l0 l1)[i].f1.f0 (PS l0 l1)[i].f1.f1 = some (cAt (PS l0 l1) i) := by
  have := PS_pv h (PS l0 l1)[i] (List.getElem_mem hi)
  rw [cAt_eq hi]
  exact ccs_f _ _ _ _ this.1 this.2 k hk
theorem moves_f {l0 l1 : List S56} (h : TG l0 l1 = true) (b : Nat) (hb : b + 1 < (PS l0 l1).length) (k : Nat) (hk : 12 ≤ k) : spec_l8Moves.f k l0 l1 (b : Int) = some (wrap64 ((PS l0 l1)[b + 1].f0.f0 - (PS l0 l1)[b].f0.f0), wrap64 ((PS l0 l1)[b + 1].f1.f0 - (PS l0 l1)[b].f1.f0)) := by
  have hn := PS_bd h
  obtain ⟨a0, a1⟩ := PS_at h b (by omega) k hk
  obtain ⟨b0, b1⟩ := PS_at h (b + 1) hb k hk
  unfold spec_l8Moves.f
  rw [w1 (by omega), a0, a1, b0, b1]
  simp only [Option.bind_some]
/-- Two concords, to which both parts move by the same steps. -/
def par (p q : S51) : Bool := decide (¬ wrap64 (q.f0.f0 - p.f0.f0) = 0) && (decide (wrap64 (q.f0.f0 - p.f0.f0) = wrap64 (q.f1.f0 - p.f1.f0)) && (cp p && cp q))
def padj : List S51 → Nat
  | [] => 0
  | [_] => 0
  | p :: q :: r => (if par p q = true then 1 else 0) + padj (q :: r)
theorem padj_drop (ps : List S51) (i : Nat) (h : i + 1 < ps.length) : padj (ps.drop i) = (if par ps[i] ps[i + 1] = true then 1 else 0) + padj (ps.drop (i + 1)) := by
  rw [List.drop_eq_getElem_cons (show i < ps.length by omega), List.drop_eq_getElem_cons h]
  rfl
theorem padj_end (ps : List S51) (i : Nat) (h : ¬ i + 1 < ps.length) : padj (ps.drop i) = 0 := by
  by_cases hi : i < ps.length
  · rw [List.drop_eq_getElem_cons hi, List.drop_eq_nil_of_le (by omega)]
    rfl
  · rw [List.drop_eq_nil_of_le (by omega)]
    rfl
theorem par_i (ps : List S51) (hv : pvs ps) (hn : ps.length ≤ 24) : ∀ (d i k : Nat) (a : Int), i + 1 + d = ps.length → d + 20 ≤ k → 0 ≤ a → a ≤ i → impl_DiscantParallels.l0 k ps a ((i + 1 : Nat) : Int) = some (a + (padj (ps.drop i) : Nat)) := by
  intro d
  induction d with
  | zero =>
    intro i k a hi hk h0 h1
    obtain ⟨k, rfl⟩ : ∃ m, k = m + 1 := ⟨k - 1, by omega⟩
    simp only [impl_DiscantParallels.l0]
    rw [if_neg (by omega), padj_end ps i (by omega)]
    simp
  | succ d ih =>
    intro i k a hi hk h0 h1
    obtain ⟨k, rfl⟩ : ∃ m, k = m + 1 := ⟨k - 1, by omega⟩
    have hx : i + 1 < ps.length := by omega
    have e1 : wrap64 (((i + 1 : Nat) : Int) - 1) = (i : Int) := by rw [w0 (by omega) (by omega)]; omega
    have hyes := ih (i + 1) k (a + 1) (by omega) (by omega) (by omega) (by omega)
    have hno := ih (i + 1) k a (by omega) (by omega) (by omega) (by omega)
    simp only [impl_DiscantParallels.l0]
    rw [if_pos (by omega), e1, if_pos (by omega), if_pos (by omega), if_pos (by omega), rdp_at ps i (by omega), rdp_at ps (i + 1) hx, padj_drop ps i hx, w1 (by omega)]
    simp only [impl_soundPair_changesTo.f, Option.bind_some]
    rw [ic_at hv i (by omega) k (by omega), ic_at hv (i + 1) hx k (by omega), cAt_eq (show i < ps.length by omega), cAt_eq hx, w0 (i := a + 1) (by omega) (by omega), hyes, hno]
    simp only [Option.bind_some]
    unfold par
    by_cases c1 : wrap64 (ps[i + 1].f0.f0 - ps[i].f0.f0) = 0
    · rw [if_pos c1]
      simp [c1]
    · rw [if_neg c1]
      by_cases c2 : wrap64 (ps[i + 1].f0.f0 - ps[i].f0.f0) = wrap64 (ps[i + 1].f1.f0 - ps[i].f1.f0)
      · rw [if_pos c2, decide_eq_true c1, decide_eq_true c2]
        cases cp ps[i] <;> cases cp ps[i + 1] <;> simp <;> omega
      · rw [if_neg c2, decide_eq_false c2]
        simp
theorem par_s' (l0 l1 : List S56) (ps : List S51) (hn : ps.length ≤ 24) (hB : ∀ k, 13 ≤ k → spec_l8Beats.f k l0 = some (ps.length : Int)) (hM : ∀ (b : Nat) (hb : b + 1 < ps.length) (k : Nat), 12 ≤ k → spec_l8Moves.f k l0 l1 (b : Int) = some (wrap64 (ps[b + 1].f0.f0 - ps[b].f0.f0), wrap64 (ps[b + 1].f1.f0 - ps[b].f1.f0)))
    (hA : ∀ (b : Nat) (hb : b < ps.length) (k : Nat), 12 ≤ k → spec_l8At.f k l0 (b : Int) = some (ps[b].f0.f0, ps[b].f0.f1) ∧ spec_l8At.f k l1 (b : Int) = some (ps[b].f1.f0, ps[b].f1.f1))
    (hC : ∀ (b : Nat) (hb : b < ps.length) (k : Nat), 14 ≤ k → spec_l8Concord.f k ps[b].f0.f0 ps[b].f0.f1 ps[b].f1.f0 ps[b].f1.f1 = some (cp ps[b])) :
    ∀ (d i k : Nat) (a : Int), i + d = ps.length → d + 20 ≤ k → 0 ≤ a → a ≤ i → spec_DiscantParallels.l0 k l0 l1 a (i : Int) = some (a + (padj (ps.drop i) : Nat)) := by
  intro d
  induction d with
  | zero =>
    intro i k a hi hk h0 h1
    obtain ⟨k, rfl⟩ : ∃ m, k = m + 1 := ⟨k - 1, by omega⟩
    simp only [spec_DiscantParallels.l0]
    rw [hB k (by omega), Option.bind_some, w1 (by omega), if_neg (by omega), padj_end _ i (by omega)]
    simp
  | succ d ih =>
    intro i k a hi hk h0 h1
    obtain ⟨k, rfl⟩ : ∃ m, k = m + 1 := ⟨k - 1, by omega⟩
    simp only [spec_DiscantParallels.l0]
    rw [hB k (by omega), Option.bind_some, w1 (by omega)]
    by_cases hx : i + 1 < ps.length
    · have hyes := ih (i + 1) k (a + 1) (by omega) (by omega) (by omega) (by omega)
      have hno := ih (i + 1) k a (by omega) (by omega) (by omega) (by omega)
      obtain ⟨a0, a1⟩ := hA i (by omega) k (by omega)
      obtain ⟨b0, b1⟩ := hA (i + 1) hx k (by omega)
      rw [if_pos (by omega), hM i hx k (by omega), padj_drop _ i hx, Option.bind_some]
      dsimp only
      rw [a0, a1, b0, b1]
      simp only [Option.bind_some]
      rw [hC i (by omega) k (by omega), hC (i + 1) hx k (by omega), w0 (i := a + 1) (by omega) (by omega), hyes, hno]
      simp only [Option.bind_some]
      unfold par
      by_cases c1 : wrap64 (ps[i + 1].f0.f0 - ps[i].f0.f0) = 0
      · rw [if_pos c1]
        simp [c1]
      · rw [if_neg c1]
        by_cases c2 : wrap64 (ps[i + 1].f0.f0 - ps[i].f0.f0) = wrap64 (ps[i + 1].f1.f0 - ps[i].f1.f0)
        · rw [if_pos c2, decide_eq_true c1, decide_eq_true c2]
          cases cp ps[i] <;> cases cp ps[i + 1] <;> simp <;> omega
        · rw [if_neg c2, decide_eq_false c2]
          simp
    · rw [if_neg (by omega), padj_end _ i hx]
      simp
def PN (l0 l1 : List S56) : Int := if TG l0 l1 = true then (padj (PS l0 l1) : Nat) else -1
theorem pni_f (l0 l1 : List S56) (k : Nat) (hk : 60 ≤ k) : impl_DiscantParallels.f k l0 l1 = some (PN l0 l1) := by
  unfold impl_DiscantParallels.f PN
  rw [so_f l0 l1 k (by omega)]
  simp only [Option.bind_some]
  by_cases h : TG l0 l1 = true
  · rw [if_pos h, if_pos h, if_pos rfl]
    by_cases hz : (PS l0 l1).length = 0
    · have e : PS l0 l1 = [] := List.length_eq_zero_iff.mp hz
      obtain ⟨k, rfl⟩ : ∃ m, k = m + 1 := ⟨k - 1, by omega⟩
      simp only [impl_DiscantParallels.l0, e]
      rfl
    · have hn := PS_bd h
      simpa using par_i (PS l0 l1) (PS_pv h) hn ((PS l0 l1).length - 1) 0 k 0 (by omega) (by omega) (by omega) (by omega)
  · rw [if_neg h, if_neg h]
    rfl
theorem pns_f (l0 l1 : List S56) (hb0 : l0.length ≤ 1048576) (hb1 : l1.length ≤ 1048576) (k : Nat) (hk : l0.length + l1.length + 60 < k) : spec_DiscantParallels.f k l0 l1 = some (PN l0 l1) := by
  unfold spec_DiscantParallels.f PN
  rw [tg_f l0 l1 hb0 hb1 k (by omega)]
  simp only [Option.bind_some]
  by_cases h : TG l0 l1 = true
  · rw [if_pos h, if_pos h]
    have hn := PS_bd h
    have := par_s' l0 l1 (PS l0 l1) hn (fun k hk => beats_tg h k hk) (fun b hb k hk => moves_f h b hb k hk) (fun b hb k hk => PS_at h b hb k hk) (fun b hb k hk => by rw [sc_at h b hb k hk, cAt_eq hb]) (PS l0 l1).length 0 k 0 (by omega) (by omega) (by omega) (by omega)
    simpa using this
  · rw [if_neg h, if_neg h]
theorem FnExactDiscantParallels : ∀ l0 l1 : List S69, l0.length ≤ maxLen → l1.length ≤ maxLen → ∃ k, laws_FnExactDiscantParallels.f k l0 l1 = some true := by
  intro l0 l1 hl0 hl1
  rcases both_lists l0 l1 hl0 hl1 with ⟨h, e⟩ | ⟨⟨h, e⟩, ⟨h', e'⟩ | ⟨h', e'⟩⟩
  · refine ⟨0, ?_⟩
    unfold laws_FnExactDiscantParallels.f
    rw [e]
    rfl
  · refine ⟨0, ?_⟩
    unfold laws_FnExactDiscantParallels.f
    rw [e]
    simp only [Option.bind_some]
    rw [if_neg (by omega), e']
    rfl
  · obtain ⟨m0, hm0⟩ : ∃ m, m = l0.map conv := ⟨_, rfl⟩
    obtain ⟨m1, hm1⟩ : ∃ m, m = l1.map conv := ⟨_, rfl⟩
    have n0 : m0.length = l0.length := by rw [hm0]; simp
    have n1 : m1.length = l1.length := by rw [hm1]; simp
    have t0 : ∀ k, l0.length < k → laws_toVoiceS.f k l0 = some m0 := fun k hk => by rw [hm0]; exact toVoiceS_f l0 k h hk
    have t1 : ∀ k, l1.length < k → laws_toVoiceS.f k l1 = some m1 := fun k hk => by rw [hm1]; exact toVoiceS_f l1 k (by omega) hk
    refine ⟨l0.length + l1.length + 80, ?_⟩
    unfold laws_FnExactDiscantParallels.f
    rw [e]
    simp only [Option.bind_some]
    rw [if_neg (by omega), e']
    simp only [Option.bind_some]
    rw [if_neg (by omega)]
    simp (disch := omega) only [t0, t1, pni_f, pns_f, eqVoiceS_f, Option.bind_some, bne_self_eq_false, Bool.false_eq_true, if_false, if_true]

end Go.Proofs.YtgiobmceippanaaDoor.PureFnExactDiscantParallels
