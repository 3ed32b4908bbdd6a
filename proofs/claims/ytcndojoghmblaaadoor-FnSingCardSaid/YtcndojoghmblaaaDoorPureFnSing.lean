/- FnSing: for every list of at most 1048576 bytes, the law of SingText holds of what the reference draws from it, and the list reads as before (longer lists the statement lets pass). The tables letterNames and syllableNames are tied to the program's text. No condition beyond the statement's own. -/
import Derived.Test.YtcndojoghmblaaaDoorSGx0
import Derived.Test.YtcndojoghmblaaaDoorSGx6
import Derived.Test.YtcndojoghmblaaaDoorSGx3
import Derived.Test.YtcndojoghmblaaaDoorSGx2
import Derived.Test.YtcndojoghmblaaaDoorSGx5
import Derived.Test.YtcndojoghmblaaaDoorSGx7
import Derived.Test.YtcndojoghmblaaaDoorSGx4
import Derived.Test.YtcndojoghmblaaaDoorSGx8
import Derived.Laws.Bits64
namespace Go.Proofs.YtcndojoghmblaaaDoor.PureFnSing
open Go.RowKit Go.Proofs.YtcndojoghmblaaaDoor.SG Go.Proofs.YtcndojoghmblaaaDoorW.PrintWords Go.Proofs.YtcndojoghmblaaaDoorW.PrintLast Go.Proofs.YtcndojoghmblaaaDoorW.PrintMore 
set_option linter.unusedVariables false
set_option linter.unusedSimpArgs false
theorem w1 {i : Nat} (h : i < 4611686018427387904) : wrap64 ((i : Int) + 1) = ((i + 1 : Nat) : Int) := by
  unfold wrap64
  omega
theorem w0 {i : Int} (h : -9223372036854775808 ≤ i) (h' : i ≤ 9223372036854775807) : wrap64 i = i := by
  unfold wrap64
  omega
theorem rd_at (xs : List Int) (i : Nat) (h : i < xs.length) : rd xs (i : Int) = xs[i] := by
  simp [rd, List.getD_eq_getElem?_getD, h]
/-- A tone of the gamut. -/
def tv (a : Int) (b : Bool) : Bool := decide (0 ≤ a) && (decide (a ≤ 20) && (!b || decide (Int.tmod a 7 = 2)))
theorem tv_spec (a : Int) (b : Bool) : spec_ToneValid.f a b = some (tv a b) := by
  unfold spec_ToneValid.f spec_l6In.f spec_l1Letter.f tv
  by_cases h0 : a ≥ 0
  · rw [if_pos h0, decide_eq_true (show 0 ≤ a from h0)]
    by_cases h1 : a ≤ 20
    · simp only [h1, decide_true, Option.bind_some, if_true, Bool.true_and]
      cases b
      · rfl
      · simp
        rfl
    · simp [h1]
  · rw [if_neg h0, decide_eq_false (show ¬ 0 ≤ a from h0)]
    rfl
theorem tv_impl (a : Int) (b : Bool) : impl_Tone_valid.f a b = some (tv a b) := by
  unfold impl_Tone_valid.f tv
  by_cases h0 : a ≥ 0
  · rw [if_pos h0, decide_eq_true (show 0 ≤ a from h0)]
    by_cases h1 : a ≤ 20
    · rw [if_pos h1, decide_eq_true h1]
      cases b
      · rfl
      · simp
        rfl
    · rw [if_neg h1, decide_eq_false h1]
      rfl
  · rw [if_neg h0, decide_eq_false (show ¬ 0 ≤ a from h0)]
    rfl
theorem in_spec (a b c : Int) : spec_l6In.f a b c = some (decide (b ≤ a) && decide (a ≤ c)) := by
  unfold spec_l6In.f
  by_cases h0 : a ≥ b
  · rw [if_pos h0, decide_eq_true (show b ≤ a from h0)]; rfl
  · rw [if_neg h0, decide_eq_false (show ¬ b ≤ a from h0)]; rfl
theorem wrap64_in (x : Int) (h1 : -9223372036854775808 ≤ x) (h2 : x < 9223372036854775808) : wrap64 x = x := IntWalk.wrap64_in x (by omega)
theorem mono_add {α : Type} {f : Nat → Option α} (h : ∀ j, LeO (f j) (f (j + 1))) {j : Nat} : ∀ (k : Nat) (r : α), f j = some r → f (j + k) = some r
  | 0, _, e => e
  | k + 1, r, e => h (j + k) r (mono_add h k r e)
theorem in_f (a b c : Int) : spec_l6In.f a b c = some (decide (b ≤ a) && decide (a ≤ c)) := by
  unfold spec_l6In.f
  split <;> rename_i h <;> simp_all
  omega
theorem hex_out {x : Int} (h : ¬ (0 ≤ x ∧ x ≤ 14)) : isHex x = false := by
  rcases hex_cases x with ⟨_, k, hk, e⟩ | ⟨e, _⟩
  · exfalso
    have : k = 0 ∨ k = 1 ∨ k = 2 ∨ k = 3 ∨ k = 4 ∨ k = 5 ∨ k = 6 := by omega
    rcases this with rfl | rfl | rfl | rfl | rfl | rfl | rfl <;> simp [hexAll] at e <;> omega
  · exact e
theorem hexvalid_f (x : Int) : spec_HexValid.f x = some (isHex x) := by
  by_cases h : 0 ≤ x ∧ x ≤ 15
  · obtain ⟨n, rfl⟩ := Int.eq_ofNat_of_zero_le h.1
    have hn : n < 16 := by omega
    have key : ∀ n : Nat, n < 16 → spec_HexValid.f (n : Int) = some (isHex (n : Int)) := by decide +kernel
    exact key n hn
  · rw [hex_out (by omega)]
    unfold spec_HexValid.f
    rw [in_f]
    have : (decide (0 ≤ x) && decide (x ≤ 15)) = false := by
      simp only [Bool.and_eq_false_iff, decide_eq_false_iff_not]
      omega
    rw [this]
    rfl
theorem hextone_out {x : Int} (h : ¬ (0 ≤ x ∧ x ≤ 14)) (y : Int) : spec_HexTone.f x y = some (0, false, false) := by
  unfold spec_HexTone.f
  rw [hexvalid_f, hex_out h]
  rfl
theorem hextone_in (n m : Nat) (hn : n < 15) (hm : m < 6) : ∃ t, spec_HexTone.f (n : Int) (m : Int) = some t ∧ 0 ≤ t.1 ∧ t.1 ≤ 20 := by
  have key : ∀ n : Nat, n < 15 → ∀ m : Nat, m < 6 → (match spec_HexTone.f (n : Int) (m : Int) with | some t => decide (0 ≤ t.1 ∧ t.1 ≤ 20) | none => false) = true := by decide +kernel
  have h := key n hn m hm
  cases e : spec_HexTone.f (n : Int) (m : Int) with
  | none => rw [e] at h; cases h
  | some t => rw [e] at h; exact ⟨t, rfl, by simpa using h⟩
theorem sylspec_no (a0 a1 : Int) (b1 : Bool) (h : ∀ m : Nat, m < 6 → ∃ t, spec_HexTone.f a0 (m : Int) = some t ∧ (t.2.2 = true → (t.1 == a1) = false)) :
    ∀ d, d ≤ 6 → ∀ k, spec_HexSyllable.l0 (k + d + 1) a0 ((6 - d : Nat) : Int) a1 b1 = some (-1)
  | 0, _, k => by
    unfold spec_HexSyllable.l0
    rw [if_neg (by omega)]
  | d + 1, hd, k => by
    obtain ⟨t, ht, hn⟩ := h (6 - (d + 1)) (by omega)
    have ih := sylspec_no a0 a1 b1 h d (by omega) k
    have ew : wrap64 (((6 - (d + 1) : Nat) : Int) + 1) = ((6 - d : Nat) : Int) := by
      rw [wrap64_in _ (by omega) (by omega)]
      omega
    rw [show k + (d + 1) + 1 = (k + d + 1) + 1 by omega]
    unfold spec_HexSyllable.l0
    rw [if_pos (by omega), ht, Option.bind_some, ew]
    cases e : t.2.2 with
    | false => rw [if_neg (by decide)]; exact ih
    | true => rw [if_pos rfl, hn e, Bool.false_and, if_neg (by decide)]; exact ih
theorem syl_no (a0 a1 : Int) (b1 : Bool) (h : ¬ (0 ≤ a0 ∧ a0 ≤ 14 ∧ 0 ≤ a1 ∧ a1 ≤ 20)) (k : Nat) : spec_HexSyllable.f (k + 7) a0 a1 b1 = some (-1) := by
  unfold spec_HexSyllable.f
  refine sylspec_no a0 a1 b1 (fun m hm => ?_) 6 (Nat.le_refl _) k
  by_cases h0 : 0 ≤ a0 ∧ a0 ≤ 14
  · obtain ⟨n, rfl⟩ := Int.eq_ofNat_of_zero_le h0.1
    obtain ⟨t, ht, h1, h2⟩ := hextone_in n m (by omega) hm
    exact ⟨t, ht, fun _ => by simp; omega⟩
  · exact ⟨_, hextone_out h0 _, fun h => by cases h⟩
theorem valid_f (a : Int) (b : Bool) : ∃ v, impl_Tone_valid.f a b = some v ∧ (¬ (0 ≤ a ∧ a ≤ 20) → v = false) := by
  unfold impl_Tone_valid.f
  by_cases h0 : a ≥ 0
  · by_cases h1 : a ≤ 20
    · rw [if_pos h0, if_pos h1]
      cases b
      · exact ⟨_, rfl, fun h => absurd ⟨h0, h1⟩ h⟩
      · exact ⟨_, rfl, fun h => absurd ⟨h0, h1⟩ h⟩
    · rw [if_pos h0, if_neg h1]
      exact ⟨_, rfl, fun _ => rfl⟩
  · rw [if_neg h0]
    exact ⟨_, rfl, fun _ => rfl⟩
theorem sylimpl_no (a0 a1 : Int) (b1 : Bool) (h : ¬ (0 ≤ a0 ∧ a0 ≤ 14 ∧ 0 ≤ a1 ∧ a1 ≤ 20)) : impl_HexSyllable.f a0 a1 b1 = some (-1) := by
  obtain ⟨v, hv, hn⟩ := valid_f a1 b1
  unfold impl_HexSyllable.f
  rw [hv, Option.bind_some]
  by_cases h0 : 0 ≤ a0 ∧ a0 ≤ 14
  · rw [hn (by omega)]
    cases isHex a0 <;> rfl
  · rw [hex_out h0]
    rfl
theorem syl_same (a0 a1 : Int) (b1 : Bool) (k : Nat) : ∃ s, spec_HexSyllable.f (k + 7) a0 a1 b1 = some s ∧ impl_HexSyllable.f a0 a1 b1 = some s ∧ -1 ≤ s ∧ s ≤ 5 := by
  by_cases h : 0 ≤ a0 ∧ a0 ≤ 14 ∧ 0 ≤ a1 ∧ a1 ≤ 20
  · obtain ⟨n, rfl⟩ := Int.eq_ofNat_of_zero_le h.1
    obtain ⟨m, rfl⟩ := Int.eq_ofNat_of_zero_le h.2.2.1
    have key : ∀ b : Bool, ∀ n : Nat, n < 15 → ∀ m : Nat, m < 21 → (match spec_HexSyllable.f 7 (n : Int) (m : Int) b with | some s => decide (impl_HexSyllable.f (n : Int) (m : Int) b = some s ∧ -1 ≤ s ∧ s ≤ 5) | none => false) = true := by decide +kernel
    have h := key b1 n (by omega) m (by omega)
    cases e : spec_HexSyllable.f 7 (n : Int) (m : Int) b1 with
    | none => rw [e] at h; cases h
    | some s =>
      rw [e] at h
      have h' := of_decide_eq_true h
      refine ⟨s, ?_, h'⟩
      rw [Nat.add_comm]
      exact mono_add (fun j => spec_HexSyllable.mono _ _ _ j) k _ e
  · exact ⟨-1, syl_no a0 a1 b1 h k, sylimpl_no a0 a1 b1 h, by omega, by omega⟩
def tvv (t : S30) : Bool := tv t.f0 t.f1
theorem rdt_at (xs : List S30) (i : Nat) (h : i < xs.length) : rd_T30 xs (i : Int) = xs[i] := by
  simp [rd_T30, List.getD_eq_getElem?_getD, h]
def MV (l : List S30) : Bool := decide (l.length ≤ 24) && l.all tvv
theorem mvs_l0 (l : List S30) (hb : l.length < 4611686018427387904) : ∀ (d i k : Nat), i + d = l.length → d < k → (l.take i).all tvv = true → spec_MelodyValid.l0 k l (i : Int) = some (MV l) := by
  intro d
  induction d with
  | zero =>
    intro i k hi hk hv
    obtain ⟨k, rfl⟩ : ∃ m, k = m + 1 := ⟨k - 1, by omega⟩
    rw [List.take_of_length_le (by omega)] at hv
    simp only [spec_MelodyValid.l0]
    rw [if_neg (by omega)]
    unfold MV
    rw [hv, Bool.and_true]
    congr 1
    rw [decide_eq_decide]
    omega
  | succ d ih =>
    intro i k hi hk hv
    obtain ⟨k, rfl⟩ : ∃ m, k = m + 1 := ⟨k - 1, by omega⟩
    have hx : i < l.length := by omega
    simp only [spec_MelodyValid.l0]
    rw [if_pos (by omega), if_pos (by omega), rdt_at l i hx, tv_spec]
    simp only [Option.bind_some]
    by_cases hvi : tv l[i].f0 l[i].f1 = true
    · rw [if_pos hvi, w1 (by omega)]
      refine ih (i + 1) k (by omega) (by omega) ?_
      rw [List.take_succ_eq_append_getElem hx, List.all_append, hv]
      simp [tvv, hvi]
    · rw [if_neg hvi]
      have : l.all tvv = false := by
        rw [Bool.eq_false_iff]
        intro h
        exact hvi (List.all_eq_true.1 h _ (List.getElem_mem hx))
      unfold MV
      rw [this, Bool.and_false]
theorem mvs_f (l : List S30) (hb : l.length ≤ 1048576) (k : Nat) (hk : l.length < k) : spec_MelodyValid.f k l = some (MV l) := by
  unfold spec_MelodyValid.f
  simpa using mvs_l0 l (by omega) l.length 0 k (by omega) (by omega) (by simp)
theorem mvi_l0 (l : List S30) (hb : l.length < 4611686018427387904) : ∀ (d i k : Nat), i + d = l.length → d < k → impl_MelodyValid.l0 k l (l.length : Int) (i : Int) = some ((l.drop i).all tvv) := by
  intro d
  induction d with
  | zero =>
    intro i k hi hk
    obtain ⟨k, rfl⟩ : ∃ m, k = m + 1 := ⟨k - 1, by omega⟩
    simp only [impl_MelodyValid.l0]
    rw [if_neg (by omega), List.drop_eq_nil_of_le (by omega)]
    rfl
  | succ d ih =>
    intro i k hi hk
    obtain ⟨k, rfl⟩ : ∃ m, k = m + 1 := ⟨k - 1, by omega⟩
    have hx : i < l.length := by omega
    simp only [impl_MelodyValid.l0]
    rw [if_pos (by omega), if_pos (by omega), if_pos (by omega), rdt_at l i hx, tv_impl, List.drop_eq_getElem_cons hx, List.all_cons]
    simp only [Option.bind_some]
    by_cases ht : tv l[i].f0 l[i].f1 = true
    · rw [if_pos ht, w1 (by omega), ih (i + 1) k (by omega) (by omega), show tvv l[i] = true from ht, Bool.true_and]
    · rw [if_neg ht, show tvv l[i] = false from Bool.eq_false_iff.mpr ht, Bool.false_and]
theorem mvi_f (l : List S30) (k : Nat) (hk : 25 ≤ k) : impl_MelodyValid.f k l = some (MV l) := by
  unfold impl_MelodyValid.f MV
  by_cases h : l.length ≤ 24
  · rw [if_neg (by omega), decide_eq_true h, Bool.true_and]
    simpa using mvi_l0 l (by omega) l.length 0 k (by omega) (by omega)
  · rw [if_pos (by omega), decide_eq_false h, Bool.false_and]

def sylF (a0 a1 : Int) (b1 : Bool) : Int := (impl_HexSyllable.f a0 a1 b1).getD 0
theorem syls_f (a0 a1 : Int) (b1 : Bool) (k : Nat) (hk : 7 ≤ k) : spec_HexSyllable.f k a0 a1 b1 = some (sylF a0 a1 b1) := by
  obtain ⟨s, h1, h2, _⟩ := syl_same a0 a1 b1 (k - 7)
  rw [show k - 7 + 7 = k by omega] at h1
  unfold sylF
  rw [h1, h2]
  rfl
theorem syli_f (a0 a1 : Int) (b1 : Bool) : impl_HexSyllable.f a0 a1 b1 = some (sylF a0 a1 b1) := by
  obtain ⟨s, h1, h2, _⟩ := syl_same a0 a1 b1 0
  unfold sylF
  rw [h2]
  rfl
theorem syl_bd (a0 a1 : Int) (b1 : Bool) : -1 ≤ sylF a0 a1 b1 ∧ sylF a0 a1 b1 ≤ 5 := by
  obtain ⟨s, h1, h2, h3, h4⟩ := syl_same a0 a1 b1 0
  unfold sylF
  rw [h2]
  exact ⟨h3, h4⟩
/-- The steps fit the tones. -/
def SG : List S30 → List Int → Bool
  | t :: l, x :: s => if sylF x t.f0 t.f1 < 0 then false else SG l s
  | _, _ => true
theorem soi_l0 (l : List S30) (s : List Int) (hs : s.length = l.length) (hb : l.length < 4611686018427387904) : ∀ (d i k : Nat), i + d = l.length → d < k → impl_SingOk.l0 k s l (l.length : Int) (i : Int) = some (SG (l.drop i) (s.drop i)) := by
  intro d
  induction d with
  | zero =>
    intro i k hi hk
    obtain ⟨k, rfl⟩ : ∃ m, k = m + 1 := ⟨k - 1, by omega⟩
    simp only [impl_SingOk.l0]
    rw [if_neg (by omega), List.drop_eq_nil_of_le (by omega)]
    simp [SG]
  | succ d ih =>
    intro i k hi hk
    obtain ⟨k, rfl⟩ : ∃ m, k = m + 1 := ⟨k - 1, by omega⟩
    have hx : i < l.length := by omega
    have hy : i < s.length := by omega
    simp only [impl_SingOk.l0]
    rw [if_pos (by omega), if_pos (by omega), if_pos (by omega), if_pos (by omega), rdt_at l i hx, rd_at s i hy, syli_f, Option.bind_some, List.drop_eq_getElem_cons hx, List.drop_eq_getElem_cons hy]
    unfold SG
    by_cases h : sylF s[i] l[i].f0 l[i].f1 < 0
    · rw [if_pos h, if_pos h]
    · rw [if_neg h, if_neg h, w1 (by omega)]
      exact ih (i + 1) k (by omega) (by omega)
def SO (l : List S30) (s : List Int) : Bool := MV l && (decide (s.length = l.length) && SG l s)
theorem soi_f (l : List S30) (s : List Int) (k : Nat) (hk : 27 ≤ k) : impl_SingOk.f k l s = some (SO l s) := by
  unfold impl_SingOk.f SO
  rw [mvi_f l k (by omega), Option.bind_some]
  obtain ⟨k, rfl⟩ : ∃ m, k = m + 1 := ⟨k - 1, by omega⟩
  cases hM : MV l with
  | false => rfl
  | true =>
    have hl : l.length ≤ 24 := by
      unfold MV at hM
      rw [Bool.and_eq_true] at hM
      exact of_decide_eq_true hM.1
    rw [if_pos rfl, Bool.true_and]
    rw [impl_SingOk.j0]
    by_cases h : s.length = l.length
    · rw [if_neg (by simp; omega), decide_eq_true h, Bool.true_and]
      simpa using soi_l0 l s h (by omega) l.length 0 k (by omega) (by omega)
    · rw [if_pos (by simp; omega), decide_eq_false h, Bool.false_and]
theorem SO_len {l : List S30} {s : List Int} (h : SO l s = true) : l.length ≤ 24 ∧ s.length = l.length := by
  unfold SO MV at h
  simp only [Bool.and_eq_true, decide_eq_true_eq] at h
  exact ⟨h.1.1, h.2.1⟩
theorem sos_l0 (l : List S30) (s : List Int) (hs : s.length = l.length) (hb : l.length < 4611686018427387904) : ∀ (d i k : Nat), i + d = l.length → d + 8 < k → spec_SingOk.l0 k l s (i : Int) = some (SG (l.drop i) (s.drop i)) := by
  intro d
  induction d with
  | zero =>
    intro i k hi hk
    obtain ⟨k, rfl⟩ : ∃ m, k = m + 1 := ⟨k - 1, by omega⟩
    simp only [spec_SingOk.l0]
    rw [if_neg (by omega), List.drop_eq_nil_of_le (by omega)]
    simp [SG]
  | succ d ih =>
    intro i k hi hk
    obtain ⟨k, rfl⟩ : ∃ m, k = m + 1 := ⟨k - 1, by omega⟩
    have hx : i < l.length := by omega
    have hy : i < s.length := by omega
    simp only [spec_SingOk.l0]
    rw [if_pos (by omega), if_pos (by omega), if_pos (by omega), rdt_at l i hx, rd_at s i hy, syls_f _ _ _ k (by omega), Option.bind_some, List.drop_eq_getElem_cons hx, List.drop_eq_getElem_cons hy]
    unfold SG
    by_cases h : sylF s[i] l[i].f0 l[i].f1 < 0
    · rw [if_pos h, if_pos h]
    · rw [if_neg h, if_neg h, w1 (by omega)]
      exact ih (i + 1) k (by omega) (by omega)
theorem sos_f (l : List S30) (s : List Int) (k : Nat) (hb : l.length ≤ 1048576) (hk : l.length + 10 < k) : spec_SingOk.f k l s = some (SO l s) := by
  unfold spec_SingOk.f SO
  rw [mvs_f l hb k (by omega), Option.bind_some]
  obtain ⟨k, rfl⟩ : ∃ m, k = m + 1 := ⟨k - 1, by omega⟩
  cases MV l with
  | false => rfl
  | true =>
    rw [if_pos rfl, Bool.true_and]
    rw [spec_SingOk.j0]
    by_cases h : s.length = l.length
    · rw [if_neg (by simp; omega), decide_eq_true h, Bool.true_and]
      simpa using sos_l0 l s h (by omega) l.length 0 k (by omega) (by omega)
    · rw [if_pos (by simp; omega), decide_eq_false h, Bool.false_and]
theorem getD_at {α : Type} (l : List α) (i : Nat) (h : i < l.length) (d : α) : l.getD i d = l[i] := by
  rw [List.getD_eq_getElem?_getD, List.getElem?_eq_getElem h, Option.getD_some]
theorem syl_out (s : Nat) (hs : s ≤ 14) (a : Int) (b : Bool) (h : ¬ (0 ≤ a ∧ a ≤ 20)) : sylOf s a b = -1 := by
  unfold sylOf
  have e : ∀ i : Nat, i < 6 → ((s : Int) + (i : Int) == a && (softAt s i == b)) = false := by
    intro i hi
    have : ((s : Int) + (i : Int) == a) = false := by
      rw [beq_eq_false_iff_ne]
      omega
    rw [this, Bool.false_and]
  rw [sylGo_step, e 0 (by omega), if_neg (by decide), sylGo_step, e 1 (by omega), if_neg (by decide), sylGo_step, e 2 (by omega), if_neg (by decide), sylGo_step, e 3 (by omega), if_neg (by decide), sylGo_step, e 4 (by omega), if_neg (by decide), sylGo_step, e 5 (by omega), if_neg (by decide)]
  rfl
theorem hexAll_le : ∀ s ∈ hexAll.take 7, s ≤ 14 := by decide
theorem hexOf_out (a : Int) (b : Bool) (h : ¬ (0 ≤ a ∧ a ≤ 20)) : hexOf a b 7 = [] := by
  unfold hexOf
  rw [List.map_eq_nil_iff, List.filter_eq_nil_iff]
  intro s hs
  rw [syl_out s (hexAll_le s hs) a b h]
  decide
theorem hexOf_mem (a : Int) (b : Bool) (x : Int) (h : x ∈ hexOf a b 7) : 0 ≤ x ∧ x ≤ 14 := by
  unfold hexOf at h
  obtain ⟨s, hs, rfl⟩ := List.mem_map.1 h
  have := hexAll_le s (List.mem_filter.1 hs).1
  omega
/-- a hexachord is in a tone's row iff the tone has a syllable there -/
theorem mem_hex (a : Int) (b : Bool) (x : Int) : x ∈ hexOf a b 7 ↔ 0 ≤ sylF x a b := by
  by_cases h : 0 ≤ x ∧ x ≤ 14 ∧ 0 ≤ a ∧ a ≤ 20
  · obtain ⟨n, rfl⟩ := Int.eq_ofNat_of_zero_le h.1
    obtain ⟨m, rfl⟩ := Int.eq_ofNat_of_zero_le h.2.2.1
    have key : ∀ b : Bool, ∀ n : Nat, n < 15 → ∀ m : Nat, m < 21 → (decide ((n : Int) ∈ hexOf (m : Int) b 7) == decide (0 ≤ (impl_HexSyllable.f (n : Int) (m : Int) b).getD 0)) = true := by decide +kernel
    have k := beq_iff_eq.mp (key b n (by omega) m (by omega))
    unfold sylF
    constructor
    · intro hx
      rw [decide_eq_true hx] at k
      exact of_decide_eq_true k.symm
    · intro hx
      rw [decide_eq_true hx] at k
      exact of_decide_eq_true k
  · constructor
    · intro hx
      have h1 := hexOf_mem a b x hx
      by_cases ha : 0 ≤ a ∧ a ≤ 20
      · omega
      · rw [hexOf_out a b ha] at hx
        exact absurd hx (List.not_mem_nil)
    · intro hx
      unfold sylF at hx
      rw [sylimpl_no x a b (by omega)] at hx
      exact absurd hx (by decide)
theorem hexOf_len3 (a : Int) (b : Bool) : (hexOf a b 7).length ≤ 3 := by
  by_cases h : 0 ≤ a ∧ a ≤ 20
  · obtain ⟨m, rfl⟩ := Int.eq_ofNat_of_zero_le h.1
    have key : ∀ b : Bool, ∀ m : Nat, m < 21 → (hexOf (m : Int) b 7).length ≤ 3 := by decide +kernel
    exact key b m (by omega)
  · rw [hexOf_out a b h]
    simp
theorem hexOf_filter (a : Int) (b : Bool) : ((List.range 21).filter (fun j : Nat => decide ((j : Int) ∈ hexOf a b 7))).map (fun j : Nat => (j : Int)) = hexOf a b 7 := by
  by_cases h : 0 ≤ a ∧ a ≤ 20
  · obtain ⟨m, rfl⟩ := Int.eq_ofNat_of_zero_le h.1
    have key : ∀ b : Bool, ∀ m : Nat, m < 21 → ((List.range 21).filter (fun j : Nat => decide ((j : Int) ∈ hexOf (m : Int) b 7))).map (fun j : Nat => (j : Int)) = hexOf (m : Int) b 7 := by decide +kernel
    exact key b m (by omega)
  · rw [hexOf_out a b h]
    simp
theorem hexalls_l0 (a : Int) (b : Bool) : ∀ (d i : Nat) (acc : List Int), i + d = 21 → acc.length ≤ i → ∀ k, d + 20 ≤ k → spec_HexAll.l0 k acc (i : Int) a b = some (acc ++ (((List.range 21).drop i).filter (fun j : Nat => decide ((j : Int) ∈ hexOf a b 7))).map (fun j : Nat => (j : Int))) := by
  intro d
  induction d with
  | zero =>
    intro i acc hi ha k hk
    obtain ⟨k, rfl⟩ : ∃ m, k = m + 1 := ⟨k - 1, by omega⟩
    simp only [spec_HexAll.l0]
    rw [if_neg (by omega), List.drop_eq_nil_of_le (by rw [List.length_range]; omega)]
    simp
  | succ d ih =>
    intro i acc hi ha k hk
    obtain ⟨k, rfl⟩ : ∃ m, k = m + 1 := ⟨k - 1, by omega⟩
    have hx : i < (List.range 21).length := by rw [List.length_range]; omega
    simp only [spec_HexAll.l0]
    rw [if_pos (by omega), syls_f _ _ _ k (by omega), Option.bind_some, List.drop_eq_getElem_cons hx, List.getElem_range, List.filter_cons]
    by_cases h : sylF (i : Int) a b ≥ 0
    · rw [if_pos h, if_pos (show acc.length < 17592186044416 by omega), if_pos (show decide ((i : Int) ∈ hexOf a b 7) = true by rw [decide_eq_true_eq]; exact (mem_hex a b (i : Int)).2 h), w1 (by omega), ih (i + 1) (acc ++ [(i : Int)]) (by omega) (by simp; omega) k (by omega)]
      simp
    · rw [if_neg h, if_neg (show ¬ decide ((i : Int) ∈ hexOf a b 7) = true by rw [decide_eq_true_eq]; exact fun hm => h ((mem_hex a b (i : Int)).1 hm)), w1 (by omega)]
      exact ih (i + 1) acc (by omega) (by omega) k (by omega)
theorem hexalls_f (a : Int) (b : Bool) (k : Nat) (hk : 41 ≤ k) : spec_HexAll.f k a b = some (hexOf a b 7) := by
  unfold spec_HexAll.f
  have := hexalls_l0 a b 21 0 [] (by omega) (Nat.le_refl _) k (by omega)
  rw [List.drop_zero, hexOf_filter, List.nil_append] at this
  exact this
/-- the number of lists -/
def prodL : List (List Int) → Int
  | [] => 1
  | h :: hs => (h.length : Int) * prodL hs
theorem prodL_nonneg : ∀ hs, 0 ≤ prodL hs
  | [] => by decide
  | h :: hs => Int.mul_nonneg (by omega) (prodL_nonneg hs)
theorem prodL_pos : ∀ hs : List (List Int), 0 < prodL hs ↔ Full hs
  | [] => ⟨fun _ => fun x hx => absurd hx (List.not_mem_nil), fun _ => by decide⟩
  | h :: hs => by
    have ih := prodL_pos hs
    have hn := prodL_nonneg hs
    constructor
    · intro hp
      have h1 : h ≠ [] := by
        rintro rfl
        simp [prodL] at hp
      have h2 : 0 < prodL hs := by
        rcases Int.lt_or_eq_of_le hn with h3 | h3
        · exact h3
        · unfold prodL at hp
          rw [← h3] at hp
          simp at hp
      intro x hx
      rcases List.mem_cons.1 hx with rfl | hx
      · exact h1
      · exact ih.1 h2 x hx
    · intro f
      unfold prodL
      refine Int.mul_pos ?_ (ih.2 f.tail)
      have := List.length_pos_iff.2 (f h (List.mem_cons_self ..))
      omega
theorem prodL_append : ∀ a b : List (List Int), prodL (a ++ b) = prodL a * prodL b
  | [], b => by simp [prodL]
  | h :: a, b => by simp only [List.cons_append, prodL]; rw [prodL_append a b, Int.mul_assoc]
theorem prodL_le : ∀ (l : List S30), prodL (rowsOf l) ≤ (3 : Int) ^ l.length
  | [] => by decide
  | t :: l => by
    have ih := prodL_le l
    have h3 : ((rowOf t).length : Int) ≤ 3 := by have := hexOf_len3 t.f0 t.f1; unfold rowOf; omega
    show ((rowOf t).length : Int) * prodL (rowsOf l) ≤ _
    rw [List.length_cons, Int.pow_succ, Int.mul_comm]
    exact Int.mul_le_mul ih h3 (by omega) (Int.pow_nonneg (by decide))
theorem pow3 : ∀ n : Nat, n ≤ 24 → (3 : Int) ^ n ≤ 282429536481 := by decide +kernel
theorem pow_cut (i d : Nat) : (3 : Int) ^ (i + d) = 3 ^ i * 3 ^ d := Int.pow_add ..
theorem many_v (l : List S30) (hl : l.length ≤ 24) : ∀ (d i k : Nat) (x : Int), i + d = l.length → d < k → 0 ≤ x → x ≤ 3 ^ i → impl_SingMany.l0 k x l (l.length : Int) (i : Int) = some (x * prodL (rowsOf (l.drop i))) := by
  intro d
  induction d with
  | zero =>
    intro i k x hi hk h0 h1
    obtain ⟨k, rfl⟩ : ∃ m, k = m + 1 := ⟨k - 1, by omega⟩
    simp only [impl_SingMany.l0]
    rw [if_neg (by omega), List.drop_eq_nil_of_le (by omega)]
    simp [rowsOf, prodL]
  | succ d ih =>
    intro i k x hi hk h0 h1
    obtain ⟨k, rfl⟩ : ∃ m, k = m + 1 := ⟨k - 1, by omega⟩
    have hx : i < l.length := by omega
    have h3 : ((rowOf l[i]).length : Int) ≤ 3 := by have := hexOf_len3 l[i].f0 l[i].f1; unfold rowOf; omega
    have e1 : x * ((rowOf l[i]).length : Int) ≤ 3 ^ (i + 1) := by
      rw [Int.pow_succ]
      exact Int.mul_le_mul h1 h3 (by omega) (Int.pow_nonneg (by decide))
    have e2 : 0 ≤ x * ((rowOf l[i]).length : Int) := Int.mul_nonneg h0 (by omega)
    have e3 := pow3 (i + 1) (by omega)
    simp only [impl_SingMany.l0]
    rw [if_pos (by omega), if_pos (by omega), if_pos (by omega), rdt_at l i hx, show impl_HexAll.f l[i].f0 l[i].f1 = some (rowOf l[i]) from rfl, Option.bind_some, w1 (by omega), w0 (i := x * ((rowOf l[i]).length : Int)) (by omega) (by omega), ih (i + 1) k _ (by omega) (by omega) e2 e1, List.drop_eq_getElem_cons hx]
    show some _ = some (x * (((rowOf l[i]).length : Int) * prodL (rowsOf (l.drop (i + 1)))))
    rw [Int.mul_assoc]
def SM (l : List S30) : Int := if MV l = true then prodL (rowsOf l) else -1
theorem MV_len {l : List S30} (h : MV l = true) : l.length ≤ 24 := by
  unfold MV at h
  rw [Bool.and_eq_true] at h
  exact of_decide_eq_true h.1
theorem many_f (l : List S30) (k : Nat) (hk : 25 ≤ k) : impl_SingMany.f k l = some (SM l) := by
  unfold impl_SingMany.f SM
  rw [mvi_f l k hk, Option.bind_some]
  by_cases h : MV l = true
  · have hl := MV_len h
    rw [if_pos h, if_pos h]
    have := many_v l hl l.length 0 k 1 (by omega) (by omega) (by decide) (by decide)
    rw [List.drop_zero, Int.one_mul] at this
    exact this
  · rw [if_neg h, if_neg h]
/-- a melody all of whose tones have a hexachord -/
def SB (l : List S30) : Bool := MV l && decide (0 < prodL (rowsOf l))
theorem SB_iff (l : List S30) : SB l = true ↔ MV l = true ∧ Full (rowsOf l) := by
  unfold SB
  rw [Bool.and_eq_true, decide_eq_true_eq, prodL_pos]
def BST (l : List S30) : List Int × Bool := if SB l = true then (best none (rowsOf l), true) else (([] : List Int), false)
theorem besti_f (l : List S30) (k : Nat) (hk : 25 ≤ k) : impl_SingBest.f k l = some (BST l) := by
  unfold impl_SingBest.f BST SB
  rw [many_f l k hk, Option.bind_some]
  unfold SM
  have hn := prodL_nonneg (rowsOf l)
  cases hM : MV l with
  | false => rfl
  | true =>
    rw [if_pos rfl, Bool.true_and]
    by_cases h : 0 < prodL (rowsOf l)
    · rw [if_neg (by omega), if_pos (by rw [decide_eq_true_eq]; exact h)]
    · rw [if_pos (by omega), if_neg (by rw [decide_eq_true_eq]; exact h)]
def cnt : Int → List Int → Int
  | _, [] => 0
  | x, y :: t => (if y = x then 0 else 1) + cnt y t
def MU : List Int → Int
  | [] => 0
  | x :: t => cnt x t
theorem cnt_bd (s : List Int) : ∀ x, 0 ≤ cnt x s ∧ cnt x s ≤ s.length := by
  induction s with
  | nil => intro x; simp [cnt]
  | cons y t ih =>
    intro x
    have := ih y
    simp only [cnt, List.length_cons]
    split <;> omega
theorem MU_bd (s : List Int) : 0 ≤ MU s ∧ MU s ≤ s.length := by
  cases s with
  | nil => simp [MU]
  | cons x t => have := cnt_bd t x; simp only [MU, List.length_cons]; omega
theorem mui_l0 (s : List Int) (hb : s.length ≤ 1048576) : ∀ (d i k : Nat) (c : Int), i + d = s.length → d < k → 1 ≤ i → 0 ≤ c → c ≤ i → impl_SingMutations.l0 k s c (i : Int) = some (c + cnt (s.getD (i - 1) 0) (s.drop i)) := by
  intro d
  induction d with
  | zero =>
    intro i k c hi hk h1 h2 h3
    obtain ⟨k, rfl⟩ : ∃ m, k = m + 1 := ⟨k - 1, by omega⟩
    simp only [impl_SingMutations.l0]
    rw [if_neg (by omega), List.drop_eq_nil_of_le (by omega)]
    simp [cnt]
  | succ d ih =>
    intro i k c hi hk h1 h2 h3
    obtain ⟨k, rfl⟩ : ∃ m, k = m + 1 := ⟨k - 1, by omega⟩
    have hx : i < s.length := by omega
    have hy : i - 1 < s.length := by omega
    have e : wrap64 ((i : Int) - 1) = ((i - 1 : Nat) : Int) := by rw [w0 (by omega) (by omega)]; omega
    have ei : s.getD i 0 = s[i] := by rw [List.getD_eq_getElem?_getD, List.getElem?_eq_getElem hx]; rfl
    have ej : s.getD (i - 1) 0 = s[i - 1] := by rw [List.getD_eq_getElem?_getD, List.getElem?_eq_getElem hy]; rfl
    simp only [impl_SingMutations.l0]
    rw [e, if_pos (by omega), if_pos (by omega), if_pos (by omega), if_pos (by omega), rd_at s i hx, rd_at s (i - 1) hy, w1 (by omega), w0 (i := c + 1) (by omega) (by omega), ej, List.drop_eq_getElem_cons hx]
    have key := fun c h2 h3 => ih (i + 1) k c (by omega) (by omega) (by omega) h2 h3
    rw [Nat.add_sub_cancel, ei] at key
    simp only [cnt]
    by_cases h : s[i] = s[i - 1]
    · rw [if_pos h, if_pos h, key c (by omega) (by omega), Int.zero_add]
    · rw [if_neg h, if_neg h, key (c + 1) (by omega) (by omega), Int.add_assoc]
theorem mui_f (l : List S30) (s : List Int) (k : Nat) (hk : 60 ≤ k) : impl_SingMutations.f k l s = some (if SO l s = true then MU s else -1) := by
  unfold impl_SingMutations.f
  rw [soi_f l s k (by omega), Option.bind_some]
  by_cases h : SO l s = true
  · obtain ⟨h1, h2⟩ := SO_len h
    rw [if_pos h, if_pos h]
    cases s with
    | nil =>
      obtain ⟨k, rfl⟩ : ∃ m, k = m + 1 := ⟨k - 1, by omega⟩
      simp only [impl_SingMutations.l0]
      rw [if_neg (by simp)]
      rfl
    | cons x t =>
      have := mui_l0 (x :: t) (by omega) t.length 1 k 0 (by simp; omega) (by simp at h2; omega) (by omega) (by omega) (by omega)
      rw [show ((1 : Nat) : Int) = 1 from rfl] at this
      rw [this, Int.zero_add]
      rfl
  · rw [if_neg h, if_neg h]
theorem cnt_muts : ∀ (s : List Int) (x : Int), cnt x s = muts x s
  | [], x => rfl
  | y :: s, x => by
    simp only [cnt, muts, chg]
    rw [cnt_muts s y]
    by_cases h : x = y
    · rw [if_pos h.symm, if_pos h]
    · rw [if_neg (fun e => h e.symm), if_neg h]
theorem MU_mutL : ∀ s : List Int, MU s = mutL s
  | [] => rfl
  | x :: s => cnt_muts s x
theorem rows_len (m : List S30) : (rowsOf m).length = m.length := by simp [rowsOf]
theorem SG_fits : ∀ (m : List S30) (s : List Int), s.length = m.length → (SG m s = true ↔ Fits (rowsOf m) s)
  | [], [], _ => ⟨fun _ => .nil, fun _ => rfl⟩
  | [], x :: s, h => by simp at h
  | t :: m, [], h => by simp at h
  | t :: m, x :: s, h => by
    have ih := SG_fits m s (by simpa using h)
    have hm := mem_hex t.f0 t.f1 x
    show (if sylF x t.f0 t.f1 < 0 then false else SG m s) = true ↔ Fits (rowOf t :: rowsOf m) (x :: s)
    constructor
    · intro hs
      by_cases hx : sylF x t.f0 t.f1 < 0
      · rw [if_pos hx] at hs
        exact absurd hs (by decide)
      · rw [if_neg hx] at hs
        exact .cons (hm.2 (by omega)) (ih.1 hs)
    · intro hf
      cases hf with
      | cons hx hr =>
        rw [if_neg (by have := hm.1 hx; omega)]
        exact ih.2 hr
theorem SO_iff {m : List S30} {s : List Int} : SO m s = true ↔ MV m = true ∧ Fits (rowsOf m) s := by
  unfold SO
  rw [Bool.and_eq_true, Bool.and_eq_true, decide_eq_true_eq]
  constructor
  · rintro ⟨h1, h2, h3⟩
    exact ⟨h1, (SG_fits m s h2).1 h3⟩
  · rintro ⟨h1, h2⟩
    have hl := fits_len h2
    rw [rows_len] at hl
    exact ⟨h1, hl, (SG_fits m s hl).2 h2⟩
theorem mutv (m : List S30) (s : List Int) (k : Nat) (hk : 60 ≤ k) (hM : MV m = true) (hf : Fits (rowsOf m) s) : impl_SingMutations.f k m s = some (mutL s) := by
  rw [mui_f m s k hk, if_pos (SO_iff.2 ⟨hM, hf⟩), MU_mutL]
theorem sylV_eq (h : Int) (t : S30) : sylV h t = sylF h t.f0 t.f1 := by
  unfold sylV
  rw [syli_f]
  rfl
theorem joinSp_one (b : ByteArray) : joinSp [b] = b := by
  unfold joinSp
  rw [List.map_cons, List.map_nil, Lib.join_one]
theorem joinSp_snoc (xs : List ByteArray) (hx : xs ≠ []) (b : ByteArray) : joinSp (xs ++ [b]) = joinSp xs ++ ⟨#[32]⟩ ++ b := by
  cases xs with
  | nil => exact absurd rfl hx
  | cons x r =>
    apply ByteArray.ext
    rw [ByteArray.data_append, ByteArray.data_append]
    apply Array.ext'
    unfold joinSp
    simp [Lib.join_cons, Lib.joinTail, List.append_assoc]
theorem joinSp_size (l : List S30) (s : List Int) (i : Nat) : (joinSp ((singNames l s).take i)).size ≤ 4 * i := by
  have hm : ∀ b ∈ (singNames l s).take i, b.size ≤ 3 := by
    intro b hb
    have hb := List.mem_of_mem_take hb
    unfold singNames at hb
    obtain ⟨j, hj, rfl⟩ := List.getElem_of_mem hb
    rw [List.getElem_zipWith]
    exact nameOf_size _
  have h := join_len (((singNames l s).take i).map (·.data.toList)) (by
    intro x hx
    obtain ⟨b, hb, rfl⟩ := List.mem_map.1 hx
    exact hm b hb)
  rw [List.length_map, List.length_take] at h
  show (Lib.join (((singNames l s).take i).map (·.data.toList)) [32]).length ≤ 4 * i
  omega
theorem sti_f (l : List S30) (s : List Int) (k : Nat) (hk : 27 ≤ k) : impl_SingText.f k l s = some (if SO l s = true then joinSp (singNames l s) else ⟨#[]⟩) := by
  unfold impl_SingText.f
  rw [soi_f l s k hk, Option.bind_some]
theorem tab6 (n : Nat) (hn : n < 6) : rdOf ByteArray.empty [(⟨#[117, 116]⟩ : ByteArray), ⟨#[114, 101]⟩, ⟨#[109, 105]⟩, ⟨#[102, 97]⟩, ⟨#[115, 111, 108]⟩, ⟨#[108, 97]⟩] (n : Int) = nameOf n := by
  have key : n = 0 ∨ n = 1 ∨ n = 2 ∨ n = 3 ∨ n = 4 ∨ n = 5 := by omega
  rcases key with rfl | rfl | rfl | rfl | rfl | rfl <;> rfl
theorem sts_l0 (m : List S30) (s : List Int) (h : SO m s = true) : ∀ (d i k : Nat), i + d = m.length → d + 10 < k → spec_SingText.l0 k m s (joinSp ((singNames m s).take i)) (i : Int) = some (joinSp (singNames m s)) := by
  obtain ⟨hm, hs⟩ := SO_len h
  have hok : impl_SingOk.f 27 m s = some true := by rw [soi_f m s 27 (by omega), h]
  obtain ⟨_, _, hf⟩ := sing_facts hok
  intro d
  induction d with
  | zero =>
    intro i k hi hk
    obtain ⟨k, rfl⟩ : ∃ m, k = m + 1 := ⟨k - 1, by omega⟩
    simp only [spec_SingText.l0]
    rw [if_neg (by omega), List.take_of_length_le (by rw [singNames_len hs]; omega)]
  | succ d ih =>
    intro i k hi hk
    obtain ⟨k, rfl⟩ : ∃ m, k = m + 1 := ⟨k - 1, by omega⟩
    have hlt : i < m.length := by omega
    obtain ⟨h1, v, hv, hv0⟩ := hf i hlt
    have hv6 := syl_six hv hv0
    have hsn := singNames_snoc hs hlt h1 hv
    obtain ⟨n, rfl⟩ := Int.eq_ofNat_of_zero_le hv0
    rw [Int.toNat_natCast] at hsn
    have hsp : spec_HexSyllable.f k s[i] m[i].f0 m[i].f1 = some (n : Int) := by
      rw [syls_f _ _ _ k (by omega), ← syli_f]
      exact hv
    have hz := joinSp_size m s i
    have hz1 := nameOf_size n
    have next := ih (i + 1) k (by omega) (by omega)
    rw [hsn] at next
    have hl6 : (n : Int) < (([(⟨#[117, 116]⟩ : ByteArray), ⟨#[114, 101]⟩, ⟨#[109, 105]⟩, ⟨#[102, 97]⟩, ⟨#[115, 111, 108]⟩, ⟨#[108, 97]⟩].length : Nat) : Int) := by
      show (n : Int) < ((6 : Nat) : Int)
      omega
    simp only [spec_SingText.l0, Option.bind_some]
    rw [if_pos (by omega)]
    by_cases hi0 : i = 0
    · subst hi0
      rw [if_neg (by omega), if_pos (by omega), if_pos (by omega), rd_at s 0 h1, rdt_at m 0 hlt, hsp, Option.bind_some, if_pos (by omega), if_pos hl6, tab6 n (by omega), if_pos (by omega), w1 (by omega)]
      have e : joinSp ((singNames m s).take 0) ++ nameOf n = joinSp ((singNames m s).take 0 ++ [nameOf n]) := by
        rw [List.take_zero, List.nil_append, joinSp_one]
        apply ByteArray.ext
        rw [ByteArray.data_append]
        apply Array.ext'
        simp [joinSp, Lib.join_nil]
      rw [e]
      exact next
    · have hne : (singNames m s).take i ≠ [] := by
        intro e
        have := congrArg List.length e
        rw [List.length_take, singNames_len hs, List.length_nil] at this
        omega
      have hz2 : (joinSp ((singNames m s).take i) ++ (⟨#[32]⟩ : ByteArray)).size = (joinSp ((singNames m s).take i)).size + 1 := by rw [ByteArray.size_append]; rfl
      rw [if_pos (by omega), if_pos (by omega), if_pos (by omega), if_pos (by omega), rd_at s i h1, rdt_at m i hlt, hsp, Option.bind_some, if_pos (by omega), if_pos hl6, tab6 n (by omega), if_pos (by omega), w1 (by omega), ← joinSp_snoc _ hne]
      exact next
theorem sts_f (m : List S30) (s : List Int) (k : Nat) (hb : m.length ≤ 1048576) (hk : m.length + 40 < k) : spec_SingText.f k m s = some (if SO m s = true then joinSp (singNames m s) else ⟨#[]⟩) := by
  unfold spec_SingText.f
  rw [sos_f m s k hb (by omega), Option.bind_some]
  by_cases h : SO m s = true
  · obtain ⟨hm, hs⟩ := SO_len h
    rw [if_pos h, if_pos h]
    have := sts_l0 m s h m.length 0 k (by omega) (by omega)
    rw [List.take_zero] at this
    exact this
  · rw [if_neg h, if_neg h]
theorem xor_nn (a b : Int) (ha : 0 ≤ a) (ha' : a < 4611686018427387904) (hb : 0 ≤ b) (hb' : b < 4611686018427387904) : 0 ≤ Go.bits .xor .i64 a b := by
  obtain ⟨x, rfl⟩ := Int.eq_ofNat_of_zero_le ha
  obtain ⟨y, rfl⟩ := Int.eq_ofNat_of_zero_le hb
  have hx : x ^^^ y < 2 ^ 62 := Nat.xor_lt_two_pow (by omega) (by omega)
  have h1 : (BitVec.ofInt 64 (x : Int)).toNat = x := by
    rw [BitVec.ofInt_natCast, BitVec.toNat_ofNat]; exact Nat.mod_eq_of_lt (by omega)
  have h2 : (BitVec.ofInt 64 (y : Int)).toNat = y := by
    rw [BitVec.ofInt_natCast, BitVec.toNat_ofNat]; exact Nat.mod_eq_of_lt (by omega)
  have e : Go.bits .xor .i64 (x : Int) (y : Int) = IntKind.i64.wrap (((x ^^^ y : Nat)) : Int) := by
    show IntKind.i64.wrap ((BitVec.ofInt 64 (x : Int) ^^^ BitVec.ofInt 64 (y : Int)).toNat : Int) = _
    rw [BitVec.toNat_xor, h1, h2]
  rw [e, IntWalk.i64_in _ (by omega)]
  omega
/-- A list of bytes. -/
def Bytes (l : List Int) : Prop := ∀ n ∈ l, 0 ≤ n ∧ n ≤ 255
theorem rd_byte {l : List Int} (h : Bytes l) (i : Int) (h0 : 0 ≤ i) (h1 : i < (l.length : Int)) : 0 ≤ rd l i ∧ rd l i ≤ 255 := by
  obtain ⟨n, rfl⟩ := Int.eq_ofNat_of_zero_le h0
  have hn : n < l.length := by omega
  rw [rd_at l n hn]
  exact h _ (List.getElem_mem hn)
theorem tm_bd (a n : Int) (ha : 0 ≤ a) (hn : 0 < n) : 0 ≤ Int.tmod a n ∧ Int.tmod a n < n := by
  rw [Int.tmod_eq_emod_of_nonneg ha]
  exact ⟨Int.emod_nonneg _ (by omega), Int.emod_lt_of_pos _ hn⟩
theorem td_bd (a n : Int) (ha : 0 ≤ a) (hn : 0 < n) : 0 ≤ Int.tdiv a n ∧ Int.tdiv a n ≤ a := by
  rw [Int.tdiv_eq_ediv_of_nonneg ha]
  exact ⟨Int.ediv_nonneg ha (by omega), Int.ediv_le_self _ ha⟩
theorem pick_some (l : List Int) (hl : Bytes l) (hn : l.length ≤ 2000) (p n : Int) (hp : 0 ≤ p) (hp' : p ≤ 1000000) (h1 : 1 ≤ n) (h2 : n ≤ 1000000) :
    ∃ v, 0 ≤ v ∧ v < n ∧ ∀ k, spec_l6Rd_pick.f (k + 1) l p n = some (v, p + 1) := by
  unfold spec_l6Rd_pick.f
  simp only [spec_l6Rd_pick.j0]
  rw [if_neg (show ¬ n < 1 by omega), w0 (i := p + 1) (by omega) (by omega), show p + 1 - 1 = p by omega, w0 (i := p) (by omega) (by omega)]
  by_cases hl0 : l.length = 0
  · refine ⟨0, by omega, by omega, fun k => ?_⟩
    rw [if_pos (show ((l.length : Int) == 0) = true by rw [hl0]; rfl)]
  · rw [if_neg (show ¬ (((l.length : Int) == 0) = true) from fun h => hl0 (by have := beq_iff_eq.1 h; omega))]
    have hlp : (0 : Int) < (l.length : Int) := by omega
    by_cases hpl : p < (l.length : Int)
    · obtain ⟨b0, b1⟩ := rd_byte hl p hp hpl
      rw [if_pos hpl, if_pos hp, if_neg (show ¬ n = 0 by omega), w0 (i := rd l p) (by omega) (by omega)]
      obtain ⟨t0, t1⟩ := tm_bd (rd l p) n b0 (by omega)
      exact ⟨_, t0, t1, fun _ => rfl⟩
    · rw [if_neg hpl, if_neg (show ¬ (l.length : Int) = 0 by omega), w0 (i := p * 7) (by omega) (by omega), w0 (i := p * 7 + 3) (by omega) (by omega)]
      obtain ⟨i0, i1⟩ := tm_bd p (l.length : Int) hp hlp
      obtain ⟨j0, j1⟩ := tm_bd (p * 7 + 3) (l.length : Int) (by omega) hlp
      obtain ⟨q0, q1⟩ := td_bd p (l.length : Int) hp hlp
      rw [if_pos i0, if_pos i1, if_pos j0, if_pos j1, if_neg (show ¬ n = 0 by omega)]
      obtain ⟨a0, a1⟩ := rd_byte hl _ i0 i1
      obtain ⟨b0, b1⟩ := rd_byte hl _ j0 j1
      generalize rd l (Int.tmod p (l.length : Int)) = a at a0 a1 ⊢
      generalize rd l (Int.tmod (p * 7 + 3) (l.length : Int)) = b at b0 b1 ⊢
      generalize Int.tdiv p (l.length : Int) = q at q0 q1 ⊢
      simp (disch := omega) only [w0]
      have x0 : 0 ≤ a * 131 + b * 1117 + p * 29 + q * 53 := by omega
      obtain ⟨d0, d1⟩ := td_bd (a * 131 + b * 1117 + p * 29 + q * 53) 64 x0 (by omega)
      rw [w0 (i := Int.tdiv (a * 131 + b * 1117 + p * 29 + q * 53) 64) (by omega) (by omega)]
      obtain ⟨t0, t1⟩ := tm_bd (Go.bits .xor .i64 (a * 131 + b * 1117 + p * 29 + q * 53) (Int.tdiv (a * 131 + b * 1117 + p * 29 + q * 53) 64)) n (xor_nn _ _ x0 (by omega) d0 (by omega)) (by omega)
      exact ⟨_, t0, t1, fun _ => rfl⟩
/-- What a reader's pick answers. -/
def pk (l : List Int) (p n : Int) : Int := ((spec_l6Rd_pick.f 1 l p n).getD (0, 0)).1
structure Rdr (l : List Int) : Prop where
  bytes : Bytes l
  len : l.length ≤ 2000
theorem pk_f {l : List Int} (h : Rdr l) (p n : Int) (k : Nat) (hp : 0 ≤ p) (hp' : p ≤ 1000000) (h1 : 1 ≤ n) (h2 : n ≤ 1000000) (hk : 1 ≤ k) : spec_l6Rd_pick.f k l p n = some (pk l p n, p + 1) := by
  obtain ⟨v, _, _, hv⟩ := pick_some l h.bytes h.len p n hp hp' h1 h2
  unfold pk
  rw [hv 0]
  obtain ⟨k, rfl⟩ : ∃ m, k = m + 1 := ⟨k - 1, by omega⟩
  rw [hv k]
  rfl
theorem pk_bd {l : List Int} (h : Rdr l) (p n : Int) (hp : 0 ≤ p) (hp' : p ≤ 1000000) (h1 : 1 ≤ n) (h2 : n ≤ 1000000) : 0 ≤ pk l p n ∧ pk l p n < n := by
  obtain ⟨v, h3, h4, hv⟩ := pick_some l h.bytes h.len p n hp hp' h1 h2
  unfold pk
  rw [hv 0]
  exact ⟨h3, h4⟩
theorem open_f (l : List Int) (hl : Bytes l) : ∃ s, spec_l6Open.f l = some (s, 0) ∧ Rdr s := by
  unfold spec_l6Open.f
  by_cases h : (l.length : Int) > 2000
  · rw [if_pos h, if_pos (by omega)]
    exact ⟨_, rfl, ⟨fun n hn => hl n (List.mem_of_mem_take hn), by simp; omega⟩⟩
  · rw [if_neg h]
    exact ⟨_, rfl, ⟨hl, by omega⟩⟩
theorem bytes_of {l : List Int} (h : ∀ n ∈ l, (Lit.int .u8 n).wf = true) : Bytes l := fun n hn => by
  have := h n hn
  simp [Lit.wf, IntKind.min, IntKind.max, IntKind.signed, IntKind.bits] at this
  omega
theorem hex_d {l : List Int} (h : Rdr l) (p : Int) (hp : 0 ≤ p) (hp' : p ≤ 100000) : ∃ s q, -1 ≤ s ∧ s ≤ 22 ∧ p ≤ q ∧ q ≤ p + 2 ∧ ∀ k, 1 ≤ k → spec_l91Hex.f k l p = some (s, q) := by
  unfold spec_l91Hex.f
  by_cases h0 : pk l p 6 = 0
  · obtain ⟨v0, v1⟩ := pk_bd h (p + 1) 24 (by omega) (by omega) (by omega) (by omega)
    refine ⟨pk l (p + 1) 24 - 1, p + 2, by omega, by omega, by omega, by omega, fun k hk => ?_⟩
    rw [pk_f h p 6 k (by omega) (by omega) (by omega) (by omega) hk]
    simp only [Option.bind_some]
    rw [if_pos h0, pk_f h (p + 1) 24 k (by omega) (by omega) (by omega) (by omega) hk]
    simp only [Option.bind_some]
    rw [w0 (by omega) (by omega), show p + 1 + 1 = p + 2 by omega]
  · obtain ⟨v0, v1⟩ := pk_bd h (p + 1) 7 (by omega) (by omega) (by omega) (by omega)
    have hr : 0 ≤ rd ([0, 3, 6, 7, 10, 13, 14] : List Int) (pk l (p + 1) 7) ∧ rd ([0, 3, 6, 7, 10, 13, 14] : List Int) (pk l (p + 1) 7) ≤ 14 := by
      obtain ⟨n, hn⟩ := Int.eq_ofNat_of_zero_le v0
      rw [hn]
      have key : ∀ n : Nat, n < 7 → 0 ≤ rd ([0, 3, 6, 7, 10, 13, 14] : List Int) (n : Int) ∧ rd ([0, 3, 6, 7, 10, 13, 14] : List Int) (n : Int) ≤ 14 := by decide +kernel
      exact key n (by omega)
    refine ⟨rd ([0, 3, 6, 7, 10, 13, 14] : List Int) (pk l (p + 1) 7), p + 2, by omega, by omega, by omega, by omega, fun k hk => ?_⟩
    rw [pk_f h p 6 k (by omega) (by omega) (by omega) (by omega) hk]
    simp only [Option.bind_some]
    rw [if_neg h0, pk_f h (p + 1) 7 k (by omega) (by omega) (by omega) (by omega) hk]
    simp only [Option.bind_some]
    rw [if_pos v0, if_pos (by simpa using v1), show p + 1 + 1 = p + 2 by omega]
theorem letter_f (a : Int) : spec_l1Letter.f a = some (Int.tmod a 7) := rfl
theorem clamp_bd (a b x : Int) (h : a ≤ b) : a ≤ mx a (mn b x) ∧ mx a (mn b x) ≤ b := by
  unfold mx mn
  constructor <;> (repeat' split) <;> omega
theorem mel_end (l : List Int) (h : Rdr l) (acc : List S30) (n : Nat) (x p : Int) (hn : n ≤ 20) (ha : acc.length = n) (hp : 0 ≤ p) (hp' : p ≤ 100000) :
    ∃ m q, m.length = n ∧ p ≤ q ∧ q ≤ p + 2 ∧ ∀ k, 2 ≤ k → spec_l91Melody.l0 k acc (n : Int) x (n : Int) l p = some (m, q) := by
  by_cases h0 : n = 0
  · refine ⟨acc, p, ha, by omega, by omega, fun k hk => ?_⟩
    obtain ⟨k, rfl⟩ : ∃ m, k = m + 1 := ⟨k - 1, by omega⟩
    simp only [spec_l91Melody.l0]
    rw [if_neg (by omega), if_neg (by omega)]
  · by_cases h1 : pk l p 50 = 0
    · obtain ⟨v0, v1⟩ := pk_bd h (p + 1) 3 (by omega) (by omega) (by omega) (by omega)
      refine ⟨acc.set (0 : Int).toNat ⟨rd ([-1, 21, 20] : List Int) (pk l (p + 1) 3), (rd_T30 acc 0).f1⟩, p + 1 + 1, by simp [ha], by omega, by omega, fun k hk => ?_⟩
      obtain ⟨k, rfl⟩ : ∃ m, k = m + 1 := ⟨k - 1, by omega⟩
      simp only [spec_l91Melody.l0]
      rw [if_neg (by omega), if_pos (by omega), pk_f h p 50 k (by omega) (by omega) (by omega) (by omega) (by omega)]
      simp only [Option.bind_some]
      rw [if_pos h1, pk_f h (p + 1) 3 k (by omega) (by omega) (by omega) (by omega) (by omega)]
      simp only [Option.bind_some]
      rw [if_pos v0, if_pos (by simpa using v1), if_pos (by omega)]
    · by_cases h2 : pk l p 50 = 1
      · have e : wrap64 ((n : Int) - 1) = ((n - 1 : Nat) : Int) := by rw [w0 (by omega) (by omega)]; omega
        refine ⟨acc.set (((n - 1 : Nat) : Int)).toNat ⟨(rd_T30 acc ((n - 1 : Nat) : Int)).f0, true⟩, p + 1, by simp [ha], by omega, by omega, fun k hk => ?_⟩
        obtain ⟨k, rfl⟩ : ∃ m, k = m + 1 := ⟨k - 1, by omega⟩
        simp only [spec_l91Melody.l0]
        rw [if_neg (by omega), if_pos (by omega), pk_f h p 50 k (by omega) (by omega) (by omega) (by omega) (by omega)]
        simp only [Option.bind_some]
        rw [if_neg h1, if_pos h2, e, if_pos (by omega), if_pos (by omega)]
      · refine ⟨acc, p + 1, ha, by omega, by omega, fun k hk => ?_⟩
        obtain ⟨k, rfl⟩ : ∃ m, k = m + 1 := ⟨k - 1, by omega⟩
        simp only [spec_l91Melody.l0]
        rw [if_neg (by omega), if_pos (by omega), pk_f h p 50 k (by omega) (by omega) (by omega) (by omega) (by omega)]
        simp only [Option.bind_some]
        rw [if_neg h1, if_neg h2]
theorem mel_l0 (l : List Int) (h : Rdr l) (n : Nat) (hn : n ≤ 20) : ∀ (d i : Nat) (acc : List S30) (x p : Int), i + d = n → acc.length = i → 0 ≤ x → x ≤ 20 → 0 ≤ p → p ≤ 10000 + 2 * i →
    ∃ m q, m.length = n ∧ p ≤ q ∧ q ≤ p + 2 * d + 2 ∧ ∀ k, d + 2 ≤ k → spec_l91Melody.l0 k acc (n : Int) x (i : Int) l p = some (m, q) := by
  intro d
  induction d with
  | zero =>
    intro i acc x p hi ha h0 h1 hp hp'
    have e : i = n := by omega
    subst e
    obtain ⟨m, q, hm, q0, q1, hq⟩ := mel_end l h acc i x p hn ha hp (by omega)
    exact ⟨m, q, hm, q0, by omega, fun k hk => hq k (by omega)⟩
  | succ d ih =>
    intro i acc x p hi ha h0 h1 hp hp'
    by_cases hx : Int.tmod x 7 = 2
    · obtain ⟨v0, v1⟩ := pk_bd h (p + 1) 5 (by omega) (by omega) (by omega) (by omega)
      obtain ⟨c0, c1⟩ := clamp_bd 1 15 (x + pk l (p + 1) 5 - 2) (by omega)
      obtain ⟨m, q, hm, q0, q1, hq⟩ := ih (i + 1) (acc ++ [⟨x, pk l p 3 == 0⟩]) (mx 1 (mn 15 (x + pk l (p + 1) 5 - 2))) (p + 1 + 1) (by omega) (by simp [ha]) (by omega) (by omega) (by omega) (by omega)
      refine ⟨m, q, hm, by omega, by omega, fun k hk => ?_⟩
      obtain ⟨k, rfl⟩ : ∃ m, k = m + 1 := ⟨k - 1, by omega⟩
      simp only [spec_l91Melody.l0]
      rw [if_pos (by omega), letter_f]
      simp only [Option.bind_some]
      rw [if_pos hx, pk_f h p 3 k (by omega) (by omega) (by omega) (by omega) (by omega)]
      simp only [Option.bind_some]
      rw [if_pos (by omega), pk_f h (p + 1) 5 k (by omega) (by omega) (by omega) (by omega) (by omega)]
      simp only [Option.bind_some]
      rw [w1 (by omega), w0 (i := x + pk l (p + 1) 5) (by omega) (by omega), w0 (i := x + pk l (p + 1) 5 - 2) (by omega) (by omega)]
      exact hq k (by omega)
    · obtain ⟨v0, v1⟩ := pk_bd h p 5 (by omega) (by omega) (by omega) (by omega)
      obtain ⟨c0, c1⟩ := clamp_bd 1 15 (x + pk l p 5 - 2) (by omega)
      obtain ⟨m, q, hm, q0, q1, hq⟩ := ih (i + 1) (acc ++ [⟨x, false⟩]) (mx 1 (mn 15 (x + pk l p 5 - 2))) (p + 1) (by omega) (by simp [ha]) (by omega) (by omega) (by omega) (by omega)
      refine ⟨m, q, hm, by omega, by omega, fun k hk => ?_⟩
      obtain ⟨k, rfl⟩ : ∃ m, k = m + 1 := ⟨k - 1, by omega⟩
      simp only [spec_l91Melody.l0]
      rw [if_pos (by omega), letter_f]
      simp only [Option.bind_some]
      rw [if_neg hx, if_pos (by omega), pk_f h p 5 k (by omega) (by omega) (by omega) (by omega) (by omega)]
      simp only [Option.bind_some]
      rw [w1 (by omega), w0 (i := x + pk l p 5) (by omega) (by omega), w0 (i := x + pk l p 5 - 2) (by omega) (by omega)]
      exact hq k (by omega)
theorem mel_d (l : List Int) (h : Rdr l) (p : Int) (a : Nat) (ha : a ≤ 20) (hp : 0 ≤ p) (hp' : p ≤ 5000) : ∃ m q, m.length ≤ a ∧ p ≤ q ∧ q ≤ p + 100 ∧ ∀ k, 40 ≤ k → spec_l91Melody.f k l p (a : Int) = some (m, q) := by
  obtain ⟨v0, v1⟩ := pk_bd h p ((a : Int) + 1) (by omega) (by omega) (by omega) (by omega)
  obtain ⟨u0, u1⟩ := pk_bd h (p + 1) 5 (by omega) (by omega) (by omega) (by omega)
  obtain ⟨n, hn⟩ := Int.eq_ofNat_of_zero_le v0
  obtain ⟨m, q, hm, q0, q1, hq⟩ := mel_l0 l h n (by omega) n 0 [] (4 + pk l (p + 1) 5) (p + 1 + 1) (by omega) rfl (by omega) (by omega) (by omega) (by omega)
  refine ⟨m, q, by omega, by omega, by omega, fun k hk => ?_⟩
  unfold spec_l91Melody.f
  rw [w0 (i := (a : Int) + 1) (by omega) (by omega), pk_f h p ((a : Int) + 1) k (by omega) (by omega) (by omega) (by omega) (by omega)]
  simp only [Option.bind_some]
  rw [pk_f h (p + 1) 5 k (by omega) (by omega) (by omega) (by omega) (by omega)]
  simp only [Option.bind_some]
  rw [w0 (i := 4 + pk l (p + 1) 5) (by omega) (by omega), hn]
  exact hq k (by omega)
theorem hexall_l0 (a : Int) (b : Bool) : ∀ (d i : Nat) (acc : List Int), i + d = 21 → acc.length ≤ i → ∃ L, L.length ≤ 21 ∧ ∀ k, d + 20 ≤ k → spec_HexAll.l0 k acc (i : Int) a b = some L := by
  intro d
  induction d with
  | zero =>
    intro i acc hi ha
    refine ⟨acc, by omega, fun k hk => ?_⟩
    obtain ⟨k, rfl⟩ : ∃ m, k = m + 1 := ⟨k - 1, by omega⟩
    simp only [spec_HexAll.l0]
    rw [if_neg (by omega)]
  | succ d ih =>
    intro i acc hi ha
    by_cases h : sylF (i : Int) a b ≥ 0
    · obtain ⟨L, hL, hq⟩ := ih (i + 1) (acc ++ [(i : Int)]) (by omega) (by simp; omega)
      refine ⟨L, hL, fun k hk => ?_⟩
      obtain ⟨k, rfl⟩ : ∃ m, k = m + 1 := ⟨k - 1, by omega⟩
      simp only [spec_HexAll.l0]
      rw [if_pos (by omega), syls_f _ _ _ k (by omega), Option.bind_some, if_pos h, if_pos (by omega), w1 (by omega)]
      exact hq k (by omega)
    · obtain ⟨L, hL, hq⟩ := ih (i + 1) acc (by omega) (by omega)
      refine ⟨L, hL, fun k hk => ?_⟩
      obtain ⟨k, rfl⟩ : ∃ m, k = m + 1 := ⟨k - 1, by omega⟩
      simp only [spec_HexAll.l0]
      rw [if_pos (by omega), syls_f _ _ _ k (by omega), Option.bind_some, if_neg h, w1 (by omega)]
      exact hq k (by omega)
theorem hexall_d (a : Int) (b : Bool) : ∃ L, L.length ≤ 21 ∧ ∀ k, 41 ≤ k → spec_HexAll.f k a b = some L := by
  obtain ⟨L, hL, hq⟩ := hexall_l0 a b 21 0 [] rfl (by simp)
  exact ⟨L, hL, fun k hk => by unfold spec_HexAll.f; exact hq k (by omega)⟩
theorem sung_end (l : List Int) (h : Rdr l) (m : List S30) (acc : List Int) (n : Nat) (p : Int) (hm : m.length = n) (ha : acc.length = n) (hn : n ≤ 20) (hp : 0 ≤ p) (hp' : p ≤ 50000) :
    ∃ s q, s.length ≤ n ∧ p ≤ q ∧ q ≤ p + 3 ∧ ∀ k, 2 ≤ k → spec_l91Sung.l0 k m acc (n : Int) l p = some (m, s, q) := by
  by_cases h0 : n = 0
  · refine ⟨acc, p, by omega, by omega, by omega, fun k hk => ?_⟩
    obtain ⟨k, rfl⟩ : ∃ m, k = m + 1 := ⟨k - 1, by omega⟩
    simp only [spec_l91Sung.l0]
    rw [if_neg (by omega), if_neg (by omega)]
  · by_cases h1 : pk l p 16 = 0
    · obtain ⟨x, q, x0, x1, q0, q1, hx⟩ := hex_d h (p + 1) (by omega) (by omega)
      refine ⟨acc.set (0 : Int).toNat x, q, by simp [ha], by omega, by omega, fun k hk => ?_⟩
      obtain ⟨k, rfl⟩ : ∃ m, k = m + 1 := ⟨k - 1, by omega⟩
      simp only [spec_l91Sung.l0]
      rw [if_neg (by omega), if_pos (by omega), pk_f h p 16 k (by omega) (by omega) (by omega) (by omega) (by omega)]
      simp only [Option.bind_some]
      rw [if_pos h1, hx k (by omega)]
      simp only [Option.bind_some]
      rw [if_pos (by omega)]
    · by_cases h2 : pk l p 16 = 1
      · refine ⟨acc.drop (1 : Int).toNat, p + 1, by simp [ha], by omega, by omega, fun k hk => ?_⟩
        obtain ⟨k, rfl⟩ : ∃ m, k = m + 1 := ⟨k - 1, by omega⟩
        simp only [spec_l91Sung.l0]
        rw [if_neg (by omega), if_pos (by omega), pk_f h p 16 k (by omega) (by omega) (by omega) (by omega) (by omega)]
        simp only [Option.bind_some]
        rw [if_neg h1, if_pos h2, if_pos (by omega)]
      · refine ⟨acc, p + 1, by omega, by omega, by omega, fun k hk => ?_⟩
        obtain ⟨k, rfl⟩ : ∃ m, k = m + 1 := ⟨k - 1, by omega⟩
        simp only [spec_l91Sung.l0]
        rw [if_neg (by omega), if_pos (by omega), pk_f h p 16 k (by omega) (by omega) (by omega) (by omega) (by omega)]
        simp only [Option.bind_some]
        rw [if_neg h1, if_neg h2]
theorem sung_l0 (l : List Int) (h : Rdr l) (m : List S30) (n : Nat) (hm : m.length = n) (hn : n ≤ 20) : ∀ (d i : Nat) (acc : List Int) (p : Int), i + d = n → acc.length = i → 0 ≤ p → p ≤ 10000 + i →
    ∃ s q, s.length ≤ n ∧ p ≤ q ∧ q ≤ p + d + 3 ∧ ∀ k, d + 50 ≤ k → spec_l91Sung.l0 k m acc (i : Int) l p = some (m, s, q) := by
  intro d
  induction d with
  | zero =>
    intro i acc p hi ha hp hp'
    have e : i = n := by omega
    subst e
    obtain ⟨s, q, h1, h2, h3, h4⟩ := sung_end l h m acc i p hm ha hn hp (by omega)
    exact ⟨s, q, h1, h2, by omega, fun k hk => h4 k (by omega)⟩
  | succ d ih =>
    intro i acc p hi ha hp hp'
    have hx : i < m.length := by omega
    obtain ⟨L, hL, hq⟩ := hexall_d m[i].f0 m[i].f1
    by_cases h0 : (L.length : Int) = 0
    · obtain ⟨s, q, h1, h2, h3, h4⟩ := ih (i + 1) (acc ++ [3]) p (by omega) (by simp [ha]) hp (by omega)
      refine ⟨s, q, h1, h2, by omega, fun k hk => ?_⟩
      obtain ⟨k, rfl⟩ : ∃ m, k = m + 1 := ⟨k - 1, by omega⟩
      simp only [spec_l91Sung.l0]
      rw [if_pos (by omega), if_pos (by omega), rdt_at m i hx, hq k (by omega), Option.bind_some, if_pos h0, if_pos (by omega), w1 (by omega)]
      exact h4 k (by omega)
    · obtain ⟨v0, v1⟩ := pk_bd h p (L.length : Int) (by omega) (by omega) (by omega) (by omega)
      obtain ⟨s, q, h1, h2, h3, h4⟩ := ih (i + 1) (acc ++ [rd L (pk l p (L.length : Int))]) (p + 1) (by omega) (by simp [ha]) (by omega) (by omega)
      refine ⟨s, q, h1, by omega, by omega, fun k hk => ?_⟩
      obtain ⟨k, rfl⟩ : ∃ m, k = m + 1 := ⟨k - 1, by omega⟩
      simp only [spec_l91Sung.l0]
      rw [if_pos (by omega), if_pos (by omega), rdt_at m i hx, hq k (by omega), Option.bind_some, if_neg h0, pk_f h p (L.length : Int) k (by omega) (by omega) (by omega) (by omega) (by omega)]
      simp only [Option.bind_some]
      rw [if_pos v0, if_pos v1, if_pos (by omega), w1 (by omega)]
      exact h4 k (by omega)
theorem sung_d (l : List Int) (h : Rdr l) (p : Int) (hp : 0 ≤ p) (hp' : p ≤ 4000) : ∃ m s q, m.length ≤ 8 ∧ s.length ≤ 8 ∧ p ≤ q ∧ q ≤ p + 200 ∧ ∀ k, 100 ≤ k → spec_l91Sung.f k l p = some (m, s, q) := by
  obtain ⟨m, q, hm, q0, q1, hq⟩ := mel_d l h p 8 (by omega) hp (by omega)
  obtain ⟨s, q', hs, r0, r1, hr⟩ := sung_l0 l h m m.length rfl (by omega) m.length 0 [] q (by omega) rfl (by omega) (by omega)
  refine ⟨m, s, q', hm, by omega, by omega, by omega, fun k hk => ?_⟩
  have hq' := hq k (by omega)
  rw [show ((8 : Nat) : Int) = 8 from rfl] at hq'
  unfold spec_l91Sung.f
  rw [hq']
  simp only [Option.bind_some]
  exact hr k (by omega)
def sp32 : List UInt8 → Int
  | [] => 0
  | b :: t => (if b = 32 then 1 else 0) + sp32 t
theorem sp32_append : ∀ a b : List UInt8, sp32 (a ++ b) = sp32 a + sp32 b
  | [], b => by simp [sp32]
  | x :: a, b => by
    have := sp32_append a b
    simp only [List.cons_append, sp32]
    omega
theorem sp32_bd : ∀ a : List UInt8, 0 ≤ sp32 a ∧ sp32 a ≤ a.length
  | [] => by simp [sp32]
  | x :: a => by
    have := sp32_bd a
    simp only [sp32, List.length_cons]
    split <;> omega
theorem sp32_name (n : Nat) : sp32 (nameOf n).data.toList = 0 := by
  unfold nameOf
  repeat' split
  all_goals decide
theorem sp32_tail : ∀ r : List (List UInt8), (∀ x ∈ r, sp32 x = 0) → sp32 (Lib.joinTail [32] r) = r.length
  | [], _ => by simp [Lib.joinTail, sp32]
  | x :: r, h => by
    have ih := sp32_tail r (fun z hz => h z (List.mem_cons_of_mem _ hz))
    have hx := h x (List.mem_cons_self ..)
    unfold Lib.joinTail at ih ⊢
    rw [List.map_cons, List.flatten_cons, sp32_append, sp32_append, ih, hx, List.length_cons]
    show (1 + 0) + 0 + (r.length : Int) = _
    omega
theorem names_l0 (s : ByteArray) (hb : s.size ≤ 1048576) : ∀ (d i k : Nat) (c : Int), i + d = s.size → d < k → 0 ≤ c → c ≤ i + 1 → laws_names.l0 k s c (i : Int) = some (c + sp32 (s.data.toList.drop i)) := by
  intro d
  induction d with
  | zero =>
    intro i k c hi hk h0 h1
    obtain ⟨k, rfl⟩ : ∃ m, k = m + 1 := ⟨k - 1, by omega⟩
    simp only [laws_names.l0]
    rw [if_neg (by omega), List.drop_eq_nil_of_le (by show s.size ≤ i; omega)]
    simp [sp32]
  | succ d ih =>
    intro i k c hi hk h0 h1
    obtain ⟨k, rfl⟩ : ∃ m, k = m + 1 := ⟨k - 1, by omega⟩
    have hlt : i < s.size := by omega
    have hl : i < s.data.toList.length := hlt
    have hbt : bt s (i : Int) = ((s.data.toList[i]).toNat : Int) := by
      unfold bt
      rw [dif_pos (by rw [Int.toNat_natCast]; exact hlt)]
      rfl
    simp only [laws_names.l0]
    rw [if_pos (by omega), if_pos (by omega), hbt, w1 (by omega), List.drop_eq_getElem_cons hl]
    simp only [sp32]
    by_cases h : s.data.toList[i] = 32
    · rw [if_pos h, h, if_pos (by rfl), w0 (by omega) (by omega), ih (i + 1) k (c + 1) (by omega) (by omega) (by omega) (by omega), Int.add_assoc]
    · rw [if_neg h, if_neg, ih (i + 1) k c (by omega) (by omega) (by omega) (by omega), Int.zero_add]
      intro e
      apply h
      apply UInt8.toNat_inj.1
      show s.data.toList[i].toNat = 32
      omega
theorem fits_full : ∀ {hs : List (List Int)} {ys : List Int}, Fits hs ys → Full hs
  | _, _, .nil => fun h hh => absurd hh (List.not_mem_nil)
  | _, _, .cons hx hr => fun h hh => by
    rcases List.mem_cons.1 hh with rfl | hh
    · intro e
      rw [e] at hx
      exact absurd hx (List.not_mem_nil)
    · exact fits_full hr h hh
theorem mutL_lt (s : List Int) (h : 0 < s.length) : mutL s < s.length := by
  cases s with
  | nil => simp at h
  | cons x t =>
    have := muts_le t x
    show muts x t < _
    rw [List.length_cons]
    omega
theorem joinSp_names (m : List S30) (s : List Int) (hs : s.length = m.length) (h0 : 0 < m.length) (hm : m.length ≤ 24) (k : Nat) (hk : 200 ≤ k) : ¬ (joinSp (singNames m s)).toList = [] ∧ laws_names.f k (joinSp (singNames m s)) = some (m.length : Int) := by
  have hln := singNames_len hs
  have hsz : (joinSp (singNames m s)).size ≤ 96 := by
    have := joinSp_size m s m.length
    rw [List.take_of_length_le (by omega)] at this
    omega
  have hz : ∀ x ∈ (singNames m s).map (·.data.toList), sp32 x = 0 := by
    intro x hx
    obtain ⟨b, hb, rfl⟩ := List.mem_map.1 hx
    unfold singNames at hb
    obtain ⟨j, hj, rfl⟩ := List.getElem_of_mem hb
    rw [List.getElem_zipWith]
    exact sp32_name _
  have hpos : ∀ b ∈ singNames m s, b.data.toList ≠ [] := by
    intro b hb
    unfold singNames at hb
    obtain ⟨j, hj, rfl⟩ := List.getElem_of_mem hb
    rw [List.getElem_zipWith]
    unfold nameOf
    repeat' split
    all_goals decide
  have hd : (joinSp (singNames m s)).data.toList = Lib.join ((singNames m s).map (·.data.toList)) [32] := rfl
  have hne : ¬ (joinSp (singNames m s)).toList = [] := by
    rw [ByteArray.toList_eq, hd]
    cases e : singNames m s with
    | nil => rw [e] at hln; simp at hln; omega
    | cons x r =>
      rw [List.map_cons, Lib.join_cons]
      intro e2
      exact hpos x (by rw [e]; exact List.mem_cons_self ..) (List.append_eq_nil_iff.1 e2).1
  refine ⟨hne, ?_⟩
  unfold laws_names.f
  have h := names_l0 (joinSp (singNames m s)) (by omega) (joinSp (singNames m s)).size 0 k 1 (by omega) (by omega) (by omega) (by omega)
  rw [if_neg hne, show ((0 : Nat) : Int) = 0 from rfl] at *
  rw [h, List.drop_zero, hd]
  congr 1
  cases e : singNames m s with
  | nil => rw [e] at hln; simp at hln; omega
  | cons x r =>
    rw [e, List.map_cons] at hz
    rw [List.map_cons, Lib.join_cons, sp32_append, sp32_tail _ (fun z hz' => hz z (List.mem_cons_of_mem _ hz')), hz _ (List.mem_cons_self ..), List.length_map]
    rw [e, List.length_cons] at hln
    omega
theorem FnSing : ∀ (l0 : List Int), l0.length ≤ maxLen → l0.length * 1 ≤ 140737488351232 → (∀ n ∈ l0, (Lit.int .u8 n).wf = true) → ∃ k, laws_FnSing.f k l0 = some true := by
  intro l0 z1 z2 hw
  refine ⟨401, ?_⟩
  unfold laws_FnSing.f
  by_cases h : (l0.length : Int) > 1048576
  · rw [if_pos h]
  · rw [if_neg h]
    obtain ⟨o, ho, hR⟩ := open_f l0 (bytes_of hw)
    obtain ⟨m, s, q, hm, hs, q0, q1, hq⟩ := sung_d o hR 0 (by omega) (by omega)
    have hd : spec_DrawSingText.f 401 l0 = some (m, s) := by
      unfold spec_DrawSingText.f
      rw [ho]
      simp only [Option.bind_some]
      rw [hq 401 (by omega)]
      rfl
    rw [hd, Option.bind_some, sti_f m s 401 (by omega), Option.bind_some, sts_f m s 401 (by omega) (by omega), Option.bind_some, if_pos rfl]
    by_cases hk : SO m s = true
    · rw [if_pos hk]
      obtain ⟨g1, g2⟩ := SO_len hk
      by_cases h0 : m.length = 0
      · have e : singNames m s = [] := List.eq_nil_of_length_eq_zero (by rw [singNames_len g2, h0])
        rw [e]
        simp only [laws_FnSing.j0]
        rw [if_pos (by rw [ByteArray.toList_eq]; rfl), beq_self_eq_true]
      · obtain ⟨n1, n2⟩ := joinSp_names m s g2 (by omega) g1 400 (by omega)
        obtain ⟨hM, hfit⟩ := SO_iff.1 hk
        have fu := fits_full hfit
        have hsb : SB m = true := (SB_iff m).2 ⟨hM, fu⟩
        have e : BST m = (best none (rowsOf m), true) := by unfold BST; rw [if_pos hsb]
        have hbf := best_fits (rowsOf m) none fu (rows_asc m)
        have hlt := mutL_lt s (by omega)
        simp only [laws_FnSing.j0]
        rw [beq_false_of_ne n1, if_neg (by decide), besti_f m 400 (by omega), Option.bind_some, e, mutv m s 400 (by omega) hM hfit, Option.bind_some, if_pos rfl, soi_f m s 400 (by omega), Option.bind_some, if_pos hk, n2, Option.bind_some, if_pos rfl, mutv m _ 400 (by omega) hM hbf, Option.bind_some, if_pos (best_mut (rowsOf m) fu (rows_asc m) hfit), decide_eq_true (by omega)]
    · rw [if_neg hk]
      simp only [laws_FnSing.j0]
      rw [if_pos (by rw [ByteArray.toList_eq]; rfl), beq_self_eq_true]

end Go.Proofs.YtcndojoghmblaaaDoor.PureFnSing
