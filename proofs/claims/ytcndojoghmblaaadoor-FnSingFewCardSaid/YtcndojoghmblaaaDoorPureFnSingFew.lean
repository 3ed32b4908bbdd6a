/- FnSingFew: for every list of at most 1048576 bytes, the law of SingMutations holds of what the reference draws from it, and the list reads as before (longer lists the statement lets pass). The tables letterNames and letterHeights are tied to the program's text. No condition beyond the statement's own. -/
import Derived.Test.YtcndojoghmblaaaDoorSFx0
import Derived.Test.YtcndojoghmblaaaDoorSFx6
import Derived.Test.YtcndojoghmblaaaDoorSFx4
import Derived.Test.YtcndojoghmblaaaDoorSFx3
import Derived.Test.YtcndojoghmblaaaDoorSFx8
import Derived.Test.YtcndojoghmblaaaDoorSFx5
import Derived.Test.YtcndojoghmblaaaDoorSFx9
import Derived.Test.YtcndojoghmblaaaDoorSFx7
import Derived.Test.YtcndojoghmblaaaDoorSFx2
import Derived.Laws.Bits64
namespace Go.Proofs.YtcndojoghmblaaaDoor.PureFnSingFew
open Go.RowKit Go.Proofs.YtcndojoghmblaaaDoor.SF Go.Proofs.YtcndojoghmblaaaDoorW.PrintWords Go.Proofs.YtcndojoghmblaaaDoorW.PrintLast Go.Proofs.YtcndojoghmblaaaDoorW.PrintMore 
set_option linter.unusedVariables false
set_option linter.unusedSimpArgs false
theorem w1 {i : Nat} (h : i < 4611686018427387904) : wrap64 ((i : Int) + 1) = ((i + 1 : Nat) : Int) := by
  unfold wrap64
  omega
theorem w0 {i : Int} (h : -9223372036854775808 ≤ i) (h' : i ≤ 9223372036854775807) : wrap64 i = i := by
  unfold wrap64
  omega
theorem rd_at (xs : List Int) (i : Nat) (h : i < xs.length) : rd xs (i : Int) = xs[i] := by
  simp [rd, List.getD_eq_getElem?_getD, h]
/-- A tone of the gamut. -/
def tv (a : Int) (b : Bool) : Bool := decide (0 ≤ a) && (decide (a ≤ 20) && (!b || decide (Int.tmod a 7 = 2)))
theorem tv_spec (a : Int) (b : Bool) : spec_ToneValid.f a b = some (tv a b) := by
  unfold spec_ToneValid.f spec_l6In.f spec_l1Letter.f tv
  by_cases h0 : a ≥ 0
  · rw [if_pos h0, decide_eq_true (show 0 ≤ a from h0)]
    by_cases h1 : a ≤ 20
    · simp only [h1, decide_true, Option.bind_some, if_true, Bool.true_and]
      cases b
      · rfl
      · simp
        rfl
    · simp [h1]
  · rw [if_neg h0, decide_eq_false (show ¬ 0 ≤ a from h0)]
    rfl
theorem tv_impl (a : Int) (b : Bool) : impl_Tone_valid.f a b = some (tv a b) := by
  unfold impl_Tone_valid.f tv
  by_cases h0 : a ≥ 0
  · rw [if_pos h0, decide_eq_true (show 0 ≤ a from h0)]
    by_cases h1 : a ≤ 20
    · rw [if_pos h1, decide_eq_true h1]
      cases b
      · rfl
      · simp
        rfl
    · rw [if_neg h1, decide_eq_false h1]
      rfl
  · rw [if_neg h0, decide_eq_false (show ¬ 0 ≤ a from h0)]
    rfl
theorem in_spec (a b c : Int) : spec_l6In.f a b c = some (decide (b ≤ a) && decide (a ≤ c)) := by
  unfold spec_l6In.f
  by_cases h0 : a ≥ b
  · rw [if_pos h0, decide_eq_true (show b ≤ a from h0)]; rfl
  · rw [if_neg h0, decide_eq_false (show ¬ b ≤ a from h0)]; rfl
theorem wrap64_in (x : Int) (h1 : -9223372036854775808 ≤ x) (h2 : x < 9223372036854775808) : wrap64 x = x := IntWalk.wrap64_in x (by omega)
theorem mono_add {α : Type} {f : Nat → Option α} (h : ∀ j, LeO (f j) (f (j + 1))) {j : Nat} : ∀ (k : Nat) (r : α), f j = some r → f (j + k) = some r
  | 0, _, e => e
  | k + 1, r, e => h (j + k) r (mono_add h k r e)
theorem in_f (a b c : Int) : spec_l6In.f a b c = some (decide (b ≤ a) && decide (a ≤ c)) := by
  unfold spec_l6In.f
  split <;> rename_i h <;> simp_all
  omega
theorem hex_out {x : Int} (h : ¬ (0 ≤ x ∧ x ≤ 14)) : isHex x = false := by
  rcases hex_cases x with ⟨_, k, hk, e⟩ | ⟨e, _⟩
  · exfalso
    have : k = 0 ∨ k = 1 ∨ k = 2 ∨ k = 3 ∨ k = 4 ∨ k = 5 ∨ k = 6 := by omega
    rcases this with rfl | rfl | rfl | rfl | rfl | rfl | rfl <;> simp [hexAll] at e <;> omega
  · exact e
theorem hexvalid_f (x : Int) : spec_HexValid.f x = some (isHex x) := by
  by_cases h : 0 ≤ x ∧ x ≤ 15
  · obtain ⟨n, rfl⟩ := Int.eq_ofNat_of_zero_le h.1
    have hn : n < 16 := by omega
    have key : ∀ n : Nat, n < 16 → spec_HexValid.f (n : Int) = some (isHex (n : Int)) := by decide +kernel
    exact key n hn
  · rw [hex_out (by omega)]
    unfold spec_HexValid.f
    rw [in_f]
    have : (decide (0 ≤ x) && decide (x ≤ 15)) = false := by
      simp only [Bool.and_eq_false_iff, decide_eq_false_iff_not]
      omega
    rw [this]
    rfl
theorem hextone_out {x : Int} (h : ¬ (0 ≤ x ∧ x ≤ 14)) (y : Int) : spec_HexTone.f x y = some (0, false, false) := by
  unfold spec_HexTone.f
  rw [hexvalid_f, hex_out h]
  rfl
theorem hextone_in (n m : Nat) (hn : n < 15) (hm : m < 6) : ∃ t, spec_HexTone.f (n : Int) (m : Int) = some t ∧ 0 ≤ t.1 ∧ t.1 ≤ 20 := by
  have key : ∀ n : Nat, n < 15 → ∀ m : Nat, m < 6 → (match spec_HexTone.f (n : Int) (m : Int) with | some t => decide (0 ≤ t.1 ∧ t.1 ≤ 20) | none => false) = true := by decide +kernel
  have h := key n hn m hm
  cases e : spec_HexTone.f (n : Int) (m : Int) with
  | none => rw [e] at h; cases h
  | some t => rw [e] at h; exact ⟨t, rfl, by simpa using h⟩
theorem sylspec_no (a0 a1 : Int) (b1 : Bool) (h : ∀ m : Nat, m < 6 → ∃ t, spec_HexTone.f a0 (m : Int) = some t ∧ (t.2.2 = true → (t.1 == a1) = false)) :
    ∀ d, d ≤ 6 → ∀ k, spec_HexSyllable.l0 (k + d + 1) a0 ((6 - d : Nat) : Int) a1 b1 = some (-1)
  | 0, _, k => by
    unfold spec_HexSyllable.l0
    rw [if_neg (by omega)]
  | d + 1, hd, k => by
    obtain ⟨t, ht, hn⟩ := h (6 - (d + 1)) (by omega)
    have ih := sylspec_no a0 a1 b1 h d (by omega) k
    have ew : wrap64 (((6 - (d + 1) : Nat) : Int) + 1) = ((6 - d : Nat) : Int) := by
      rw [wrap64_in _ (by omega) (by omega)]
      omega
    rw [show k + (d + 1) + 1 = (k + d + 1) + 1 by omega]
    unfold spec_HexSyllable.l0
    rw [if_pos (by omega), ht, Option.bind_some, ew]
    cases e : t.2.2 with
    | false => rw [if_neg (by decide)]; exact ih
    | true => rw [if_pos rfl, hn e, Bool.false_and, if_neg (by decide)]; exact ih
theorem syl_no (a0 a1 : Int) (b1 : Bool) (h : ¬ (0 ≤ a0 ∧ a0 ≤ 14 ∧ 0 ≤ a1 ∧ a1 ≤ 20)) (k : Nat) : spec_HexSyllable.f (k + 7) a0 a1 b1 = some (-1) := by
  unfold spec_HexSyllable.f
  refine sylspec_no a0 a1 b1 (fun m hm => ?_) 6 (Nat.le_refl _) k
  by_cases h0 : 0 ≤ a0 ∧ a0 ≤ 14
  · obtain ⟨n, rfl⟩ := Int.eq_ofNat_of_zero_le h0.1
    obtain ⟨t, ht, h1, h2⟩ := hextone_in n m (by omega) hm
    exact ⟨t, ht, fun _ => by simp; omega⟩
  · exact ⟨_, hextone_out h0 _, fun h => by cases h⟩
theorem valid_f (a : Int) (b : Bool) : ∃ v, impl_Tone_valid.f a b = some v ∧ (¬ (0 ≤ a ∧ a ≤ 20) → v = false) := by
  unfold impl_Tone_valid.f
  by_cases h0 : a ≥ 0
  · by_cases h1 : a ≤ 20
    · rw [if_pos h0, if_pos h1]
      cases b
      · exact ⟨_, rfl, fun h => absurd ⟨h0, h1⟩ h⟩
      · exact ⟨_, rfl, fun h => absurd ⟨h0, h1⟩ h⟩
    · rw [if_pos h0, if_neg h1]
      exact ⟨_, rfl, fun _ => rfl⟩
  · rw [if_neg h0]
    exact ⟨_, rfl, fun _ => rfl⟩
theorem sylimpl_no (a0 a1 : Int) (b1 : Bool) (h : ¬ (0 ≤ a0 ∧ a0 ≤ 14 ∧ 0 ≤ a1 ∧ a1 ≤ 20)) : impl_HexSyllable.f a0 a1 b1 = some (-1) := by
  obtain ⟨v, hv, hn⟩ := valid_f a1 b1
  unfold impl_HexSyllable.f
  rw [hv, Option.bind_some]
  by_cases h0 : 0 ≤ a0 ∧ a0 ≤ 14
  · rw [hn (by omega)]
    cases isHex a0 <;> rfl
  · rw [hex_out h0]
    rfl
theorem syl_same (a0 a1 : Int) (b1 : Bool) (k : Nat) : ∃ s, spec_HexSyllable.f (k + 7) a0 a1 b1 = some s ∧ impl_HexSyllable.f a0 a1 b1 = some s ∧ -1 ≤ s ∧ s ≤ 5 := by
  by_cases h : 0 ≤ a0 ∧ a0 ≤ 14 ∧ 0 ≤ a1 ∧ a1 ≤ 20
  · obtain ⟨n, rfl⟩ := Int.eq_ofNat_of_zero_le h.1
    obtain ⟨m, rfl⟩ := Int.eq_ofNat_of_zero_le h.2.2.1
    have key : ∀ b : Bool, ∀ n : Nat, n < 15 → ∀ m : Nat, m < 21 → (match spec_HexSyllable.f 7 (n : Int) (m : Int) b with | some s => decide (impl_HexSyllable.f (n : Int) (m : Int) b = some s ∧ -1 ≤ s ∧ s ≤ 5) | none => false) = true := by decide +kernel
    have h := key b1 n (by omega) m (by omega)
    cases e : spec_HexSyllable.f 7 (n : Int) (m : Int) b1 with
    | none => rw [e] at h; cases h
    | some s =>
      rw [e] at h
      have h' := of_decide_eq_true h
      refine ⟨s, ?_, h'⟩
      rw [Nat.add_comm]
      exact mono_add (fun j => spec_HexSyllable.mono _ _ _ j) k _ e
  · exact ⟨-1, syl_no a0 a1 b1 h k, sylimpl_no a0 a1 b1 h, by omega, by omega⟩
def tvv (t : S30) : Bool := tv t.f0 t.f1
theorem rdt_at (xs : List S30) (i : Nat) (h : i < xs.length) : rd_T30 xs (i : Int) = xs[i] := by
  simp [rd_T30, List.getD_eq_getElem?_getD, h]
def MV (l : List S30) : Bool := decide (l.length ≤ 24) && l.all tvv
theorem mvs_l0 (l : List S30) (hb : l.length < 4611686018427387904) : ∀ (d i k : Nat), i + d = l.length → d < k → (l.take i).all tvv = true → spec_MelodyValid.l0 k l (i : Int) = some (MV l) := by
  intro d
  induction d with
  | zero =>
    intro i k hi hk hv
    obtain ⟨k, rfl⟩ : ∃ m, k = m + 1 := ⟨k - 1, by omega⟩
    rw [List.take_of_length_le (by omega)] at hv
    simp only [spec_MelodyValid.l0]
    rw [if_neg (by omega)]
    unfold MV
    rw [hv, Bool.and_true]
    congr 1
    rw [decide_eq_decide]
    omega
  | succ d ih =>
    intro i k hi hk hv
    obtain ⟨k, rfl⟩ : ∃ m, k = m + 1 := ⟨k - 1, by omega⟩
    have hx : i < l.length := by omega
    simp only [spec_MelodyValid.l0]
    rw [if_pos (by omega), if_pos (by omega), rdt_at l i hx, tv_spec]
    simp only [Option.bind_some]
    by_cases hvi : tv l[i].f0 l[i].f1 = true
    · rw [if_pos hvi, w1 (by omega)]
      refine ih (i + 1) k (by omega) (by omega) ?_
      rw [List.take_succ_eq_append_getElem hx, List.all_append, hv]
      simp [tvv, hvi]
    · rw [if_neg hvi]
      have : l.all tvv = false := by
        rw [Bool.eq_false_iff]
        intro h
        exact hvi (List.all_eq_true.1 h _ (List.getElem_mem hx))
      unfold MV
      rw [this, Bool.and_false]
theorem mvs_f (l : List S30) (hb : l.length ≤ 1048576) (k : Nat) (hk : l.length < k) : spec_MelodyValid.f k l = some (MV l) := by
  unfold spec_MelodyValid.f
  simpa using mvs_l0 l (by omega) l.length 0 k (by omega) (by omega) (by simp)
theorem mvi_l0 (l : List S30) (hb : l.length < 4611686018427387904) : ∀ (d i k : Nat), i + d = l.length → d < k → impl_MelodyValid.l0 k l (l.length : Int) (i : Int) = some ((l.drop i).all tvv) := by
  intro d
  induction d with
  | zero =>
    intro i k hi hk
    obtain ⟨k, rfl⟩ : ∃ m, k = m + 1 := ⟨k - 1, by omega⟩
    simp only [impl_MelodyValid.l0]
    rw [if_neg (by omega), List.drop_eq_nil_of_le (by omega)]
    rfl
  | succ d ih =>
    intro i k hi hk
    obtain ⟨k, rfl⟩ : ∃ m, k = m + 1 := ⟨k - 1, by omega⟩
    have hx : i < l.length := by omega
    simp only [impl_MelodyValid.l0]
    rw [if_pos (by omega), if_pos (by omega), if_pos (by omega), rdt_at l i hx, tv_impl, List.drop_eq_getElem_cons hx, List.all_cons]
    simp only [Option.bind_some]
    by_cases ht : tv l[i].f0 l[i].f1 = true
    · rw [if_pos ht, w1 (by omega), ih (i + 1) k (by omega) (by omega), show tvv l[i] = true from ht, Bool.true_and]
    · rw [if_neg ht, show tvv l[i] = false from Bool.eq_false_iff.mpr ht, Bool.false_and]
theorem mvi_f (l : List S30) (k : Nat) (hk : 25 ≤ k) : impl_MelodyValid.f k l = some (MV l) := by
  unfold impl_MelodyValid.f MV
  by_cases h : l.length ≤ 24
  · rw [if_neg (by omega), decide_eq_true h, Bool.true_and]
    simpa using mvi_l0 l (by omega) l.length 0 k (by omega) (by omega)
  · rw [if_pos (by omega), decide_eq_false h, Bool.false_and]

def sylF (a0 a1 : Int) (b1 : Bool) : Int := (impl_HexSyllable.f a0 a1 b1).getD 0
theorem syls_f (a0 a1 : Int) (b1 : Bool) (k : Nat) (hk : 7 ≤ k) : spec_HexSyllable.f k a0 a1 b1 = some (sylF a0 a1 b1) := by
  obtain ⟨s, h1, h2, _⟩ := syl_same a0 a1 b1 (k - 7)
  rw [show k - 7 + 7 = k by omega] at h1
  unfold sylF
  rw [h1, h2]
  rfl
theorem syli_f (a0 a1 : Int) (b1 : Bool) : impl_HexSyllable.f a0 a1 b1 = some (sylF a0 a1 b1) := by
  obtain ⟨s, h1, h2, _⟩ := syl_same a0 a1 b1 0
  unfold sylF
  rw [h2]
  rfl
theorem syl_bd (a0 a1 : Int) (b1 : Bool) : -1 ≤ sylF a0 a1 b1 ∧ sylF a0 a1 b1 ≤ 5 := by
  obtain ⟨s, h1, h2, h3, h4⟩ := syl_same a0 a1 b1 0
  unfold sylF
  rw [h2]
  exact ⟨h3, h4⟩
/-- The steps fit the tones. -/
def SG : List S30 → List Int → Bool
  | t :: l, x :: s => if sylF x t.f0 t.f1 < 0 then false else SG l s
  | _, _ => true
theorem soi_l0 (l : List S30) (s : List Int) (hs : s.length = l.length) (hb : l.length < 4611686018427387904) : ∀ (d i k : Nat), i + d = l.length → d < k → impl_SingOk.l0 k s l (l.length : Int) (i : Int) = some (SG (l.drop i) (s.drop i)) := by
  intro d
  induction d with
  | zero =>
    intro i k hi hk
    obtain ⟨k, rfl⟩ : ∃ m, k = m + 1 := ⟨k - 1, by omega⟩
    simp only [impl_SingOk.l0]
    rw [if_neg (by omega), List.drop_eq_nil_of_le (by omega)]
    simp [SG]
  | succ d ih =>
    intro i k hi hk
    obtain ⟨k, rfl⟩ : ∃ m, k = m + 1 := ⟨k - 1, by omega⟩
    have hx : i < l.length := by omega
    have hy : i < s.length := by omega
    simp only [impl_SingOk.l0]
    rw [if_pos (by omega), if_pos (by omega), if_pos (by omega), if_pos (by omega), rdt_at l i hx, rd_at s i hy, syli_f, Option.bind_some, List.drop_eq_getElem_cons hx, List.drop_eq_getElem_cons hy]
    unfold SG
    by_cases h : sylF s[i] l[i].f0 l[i].f1 < 0
    · rw [if_pos h, if_pos h]
    · rw [if_neg h, if_neg h, w1 (by omega)]
      exact ih (i + 1) k (by omega) (by omega)
def SO (l : List S30) (s : List Int) : Bool := MV l && (decide (s.length = l.length) && SG l s)
theorem soi_f (l : List S30) (s : List Int) (k : Nat) (hk : 27 ≤ k) : impl_SingOk.f k l s = some (SO l s) := by
  unfold impl_SingOk.f SO
  rw [mvi_f l k (by omega), Option.bind_some]
  obtain ⟨k, rfl⟩ : ∃ m, k = m + 1 := ⟨k - 1, by omega⟩
  cases hM : MV l with
  | false => rfl
  | true =>
    have hl : l.length ≤ 24 := by
      unfold MV at hM
      rw [Bool.and_eq_true] at hM
      exact of_decide_eq_true hM.1
    rw [if_pos rfl, Bool.true_and]
    rw [impl_SingOk.j0]
    by_cases h : s.length = l.length
    · rw [if_neg (by simp; omega), decide_eq_true h, Bool.true_and]
      simpa using soi_l0 l s h (by omega) l.length 0 k (by omega) (by omega)
    · rw [if_pos (by simp; omega), decide_eq_false h, Bool.false_and]
theorem SO_len {l : List S30} {s : List Int} (h : SO l s = true) : l.length ≤ 24 ∧ s.length = l.length := by
  unfold SO MV at h
  simp only [Bool.and_eq_true, decide_eq_true_eq] at h
  exact ⟨h.1.1, h.2.1⟩
theorem getD_at {α : Type} (l : List α) (i : Nat) (h : i < l.length) (d : α) : l.getD i d = l[i] := by
  rw [List.getD_eq_getElem?_getD, List.getElem?_eq_getElem h, Option.getD_some]
theorem syl_out (s : Nat) (hs : s ≤ 14) (a : Int) (b : Bool) (h : ¬ (0 ≤ a ∧ a ≤ 20)) : sylOf s a b = -1 := by
  unfold sylOf
  have e : ∀ i : Nat, i < 6 → ((s : Int) + (i : Int) == a && (softAt s i == b)) = false := by
    intro i hi
    have : ((s : Int) + (i : Int) == a) = false := by
      rw [beq_eq_false_iff_ne]
      omega
    rw [this, Bool.false_and]
  rw [sylGo_step, e 0 (by omega), if_neg (by decide), sylGo_step, e 1 (by omega), if_neg (by decide), sylGo_step, e 2 (by omega), if_neg (by decide), sylGo_step, e 3 (by omega), if_neg (by decide), sylGo_step, e 4 (by omega), if_neg (by decide), sylGo_step, e 5 (by omega), if_neg (by decide)]
  rfl
theorem hexAll_le : ∀ s ∈ hexAll.take 7, s ≤ 14 := by decide
theorem hexOf_out (a : Int) (b : Bool) (h : ¬ (0 ≤ a ∧ a ≤ 20)) : hexOf a b 7 = [] := by
  unfold hexOf
  rw [List.map_eq_nil_iff, List.filter_eq_nil_iff]
  intro s hs
  rw [syl_out s (hexAll_le s hs) a b h]
  decide
theorem hexOf_mem (a : Int) (b : Bool) (x : Int) (h : x ∈ hexOf a b 7) : 0 ≤ x ∧ x ≤ 14 := by
  unfold hexOf at h
  obtain ⟨s, hs, rfl⟩ := List.mem_map.1 h
  have := hexAll_le s (List.mem_filter.1 hs).1
  omega
/-- a hexachord is in a tone's row iff the tone has a syllable there -/
theorem mem_hex (a : Int) (b : Bool) (x : Int) : x ∈ hexOf a b 7 ↔ 0 ≤ sylF x a b := by
  by_cases h : 0 ≤ x ∧ x ≤ 14 ∧ 0 ≤ a ∧ a ≤ 20
  · obtain ⟨n, rfl⟩ := Int.eq_ofNat_of_zero_le h.1
    obtain ⟨m, rfl⟩ := Int.eq_ofNat_of_zero_le h.2.2.1
    have key : ∀ b : Bool, ∀ n : Nat, n < 15 → ∀ m : Nat, m < 21 → (decide ((n : Int) ∈ hexOf (m : Int) b 7) == decide (0 ≤ (impl_HexSyllable.f (n : Int) (m : Int) b).getD 0)) = true := by decide +kernel
    have k := beq_iff_eq.mp (key b n (by omega) m (by omega))
    unfold sylF
    constructor
    · intro hx
      rw [decide_eq_true hx] at k
      exact of_decide_eq_true k.symm
    · intro hx
      rw [decide_eq_true hx] at k
      exact of_decide_eq_true k
  · constructor
    · intro hx
      have h1 := hexOf_mem a b x hx
      by_cases ha : 0 ≤ a ∧ a ≤ 20
      · omega
      · rw [hexOf_out a b ha] at hx
        exact absurd hx (List.not_mem_nil)
    · intro hx
      unfold sylF at hx
      rw [sylimpl_no x a b (by omega)] at hx
      exact absurd hx (by decide)
theorem hexOf_len3 (a : Int) (b : Bool) : (hexOf a b 7).length ≤ 3 := by
  by_cases h : 0 ≤ a ∧ a ≤ 20
  · obtain ⟨m, rfl⟩ := Int.eq_ofNat_of_zero_le h.1
    have key : ∀ b : Bool, ∀ m : Nat, m < 21 → (hexOf (m : Int) b 7).length ≤ 3 := by decide +kernel
    exact key b m (by omega)
  · rw [hexOf_out a b h]
    simp
theorem hexOf_filter (a : Int) (b : Bool) : ((List.range 21).filter (fun j : Nat => decide ((j : Int) ∈ hexOf a b 7))).map (fun j : Nat => (j : Int)) = hexOf a b 7 := by
  by_cases h : 0 ≤ a ∧ a ≤ 20
  · obtain ⟨m, rfl⟩ := Int.eq_ofNat_of_zero_le h.1
    have key : ∀ b : Bool, ∀ m : Nat, m < 21 → ((List.range 21).filter (fun j : Nat => decide ((j : Int) ∈ hexOf (m : Int) b 7))).map (fun j : Nat => (j : Int)) = hexOf (m : Int) b 7 := by decide +kernel
    exact key b m (by omega)
  · rw [hexOf_out a b h]
    simp
theorem hexalls_l0 (a : Int) (b : Bool) : ∀ (d i : Nat) (acc : List Int), i + d = 21 → acc.length ≤ i → ∀ k, d + 20 ≤ k → spec_HexAll.l0 k acc (i : Int) a b = some (acc ++ (((List.range 21).drop i).filter (fun j : Nat => decide ((j : Int) ∈ hexOf a b 7))).map (fun j : Nat => (j : Int))) := by
  intro d
  induction d with
  | zero =>
    intro i acc hi ha k hk
    obtain ⟨k, rfl⟩ : ∃ m, k = m + 1 := ⟨k - 1, by omega⟩
    simp only [spec_HexAll.l0]
    rw [if_neg (by omega), List.drop_eq_nil_of_le (by rw [List.length_range]; omega)]
    simp
  | succ d ih =>
    intro i acc hi ha k hk
    obtain ⟨k, rfl⟩ : ∃ m, k = m + 1 := ⟨k - 1, by omega⟩
    have hx : i < (List.range 21).length := by rw [List.length_range]; omega
    simp only [spec_HexAll.l0]
    rw [if_pos (by omega), syls_f _ _ _ k (by omega), Option.bind_some, List.drop_eq_getElem_cons hx, List.getElem_range, List.filter_cons]
    by_cases h : sylF (i : Int) a b ≥ 0
    · rw [if_pos h, if_pos (show acc.length < 17592186044416 by omega), if_pos (show decide ((i : Int) ∈ hexOf a b 7) = true by rw [decide_eq_true_eq]; exact (mem_hex a b (i : Int)).2 h), w1 (by omega), ih (i + 1) (acc ++ [(i : Int)]) (by omega) (by simp; omega) k (by omega)]
      simp
    · rw [if_neg h, if_neg (show ¬ decide ((i : Int) ∈ hexOf a b 7) = true by rw [decide_eq_true_eq]; exact fun hm => h ((mem_hex a b (i : Int)).1 hm)), w1 (by omega)]
      exact ih (i + 1) acc (by omega) (by omega) k (by omega)
theorem hexalls_f (a : Int) (b : Bool) (k : Nat) (hk : 41 ≤ k) : spec_HexAll.f k a b = some (hexOf a b 7) := by
  unfold spec_HexAll.f
  have := hexalls_l0 a b 21 0 [] (by omega) (Nat.le_refl _) k (by omega)
  rw [List.drop_zero, hexOf_filter, List.nil_append] at this
  exact this
/-- the number of lists -/
def prodL : List (List Int) → Int
  | [] => 1
  | h :: hs => (h.length : Int) * prodL hs
theorem prodL_nonneg : ∀ hs, 0 ≤ prodL hs
  | [] => by decide
  | h :: hs => Int.mul_nonneg (by omega) (prodL_nonneg hs)
theorem prodL_pos : ∀ hs : List (List Int), 0 < prodL hs ↔ Full hs
  | [] => ⟨fun _ => fun x hx => absurd hx (List.not_mem_nil), fun _ => by decide⟩
  | h :: hs => by
    have ih := prodL_pos hs
    have hn := prodL_nonneg hs
    constructor
    · intro hp
      have h1 : h ≠ [] := by
        rintro rfl
        simp [prodL] at hp
      have h2 : 0 < prodL hs := by
        rcases Int.lt_or_eq_of_le hn with h3 | h3
        · exact h3
        · unfold prodL at hp
          rw [← h3] at hp
          simp at hp
      intro x hx
      rcases List.mem_cons.1 hx with rfl | hx
      · exact h1
      · exact ih.1 h2 x hx
    · intro f
      unfold prodL
      refine Int.mul_pos ?_ (ih.2 f.tail)
      have := List.length_pos_iff.2 (f h (List.mem_cons_self ..))
      omega
theorem prodL_append : ∀ a b : List (List Int), prodL (a ++ b) = prodL a * prodL b
  | [], b => by simp [prodL]
  | h :: a, b => by simp only [List.cons_append, prodL]; rw [prodL_append a b, Int.mul_assoc]
theorem prodL_le : ∀ (l : List S30), prodL (rowsOf l) ≤ (3 : Int) ^ l.length
  | [] => by decide
  | t :: l => by
    have ih := prodL_le l
    have h3 : ((rowOf t).length : Int) ≤ 3 := by have := hexOf_len3 t.f0 t.f1; unfold rowOf; omega
    show ((rowOf t).length : Int) * prodL (rowsOf l) ≤ _
    rw [List.length_cons, Int.pow_succ, Int.mul_comm]
    exact Int.mul_le_mul ih h3 (by omega) (Int.pow_nonneg (by decide))
theorem pow3 : ∀ n : Nat, n ≤ 24 → (3 : Int) ^ n ≤ 282429536481 := by decide +kernel
theorem pow_cut (i d : Nat) : (3 : Int) ^ (i + d) = 3 ^ i * 3 ^ d := Int.pow_add ..
theorem many_v (l : List S30) (hl : l.length ≤ 24) : ∀ (d i k : Nat) (x : Int), i + d = l.length → d < k → 0 ≤ x → x ≤ 3 ^ i → impl_SingMany.l0 k x l (l.length : Int) (i : Int) = some (x * prodL (rowsOf (l.drop i))) := by
  intro d
  induction d with
  | zero =>
    intro i k x hi hk h0 h1
    obtain ⟨k, rfl⟩ : ∃ m, k = m + 1 := ⟨k - 1, by omega⟩
    simp only [impl_SingMany.l0]
    rw [if_neg (by omega), List.drop_eq_nil_of_le (by omega)]
    simp [rowsOf, prodL]
  | succ d ih =>
    intro i k x hi hk h0 h1
    obtain ⟨k, rfl⟩ : ∃ m, k = m + 1 := ⟨k - 1, by omega⟩
    have hx : i < l.length := by omega
    have h3 : ((rowOf l[i]).length : Int) ≤ 3 := by have := hexOf_len3 l[i].f0 l[i].f1; unfold rowOf; omega
    have e1 : x * ((rowOf l[i]).length : Int) ≤ 3 ^ (i + 1) := by
      rw [Int.pow_succ]
      exact Int.mul_le_mul h1 h3 (by omega) (Int.pow_nonneg (by decide))
    have e2 : 0 ≤ x * ((rowOf l[i]).length : Int) := Int.mul_nonneg h0 (by omega)
    have e3 := pow3 (i + 1) (by omega)
    simp only [impl_SingMany.l0]
    rw [if_pos (by omega), if_pos (by omega), if_pos (by omega), rdt_at l i hx, show impl_HexAll.f l[i].f0 l[i].f1 = some (rowOf l[i]) from rfl, Option.bind_some, w1 (by omega), w0 (i := x * ((rowOf l[i]).length : Int)) (by omega) (by omega), ih (i + 1) k _ (by omega) (by omega) e2 e1, List.drop_eq_getElem_cons hx]
    show some _ = some (x * (((rowOf l[i]).length : Int) * prodL (rowsOf (l.drop (i + 1)))))
    rw [Int.mul_assoc]
def SM (l : List S30) : Int := if MV l = true then prodL (rowsOf l) else -1
theorem MV_len {l : List S30} (h : MV l = true) : l.length ≤ 24 := by
  unfold MV at h
  rw [Bool.and_eq_true] at h
  exact of_decide_eq_true h.1
theorem many_f (l : List S30) (k : Nat) (hk : 25 ≤ k) : impl_SingMany.f k l = some (SM l) := by
  unfold impl_SingMany.f SM
  rw [mvi_f l k hk, Option.bind_some]
  by_cases h : MV l = true
  · have hl := MV_len h
    rw [if_pos h, if_pos h]
    have := many_v l hl l.length 0 k 1 (by omega) (by omega) (by decide) (by decide)
    rw [List.drop_zero, Int.one_mul] at this
    exact this
  · rw [if_neg h, if_neg h]
/-- a melody all of whose tones have a hexachord -/
def SB (l : List S30) : Bool := MV l && decide (0 < prodL (rowsOf l))
theorem SB_iff (l : List S30) : SB l = true ↔ MV l = true ∧ Full (rowsOf l) := by
  unfold SB
  rw [Bool.and_eq_true, decide_eq_true_eq, prodL_pos]
def BST (l : List S30) : List Int × Bool := if SB l = true then (best none (rowsOf l), true) else (([] : List Int), false)
theorem besti_f (l : List S30) (k : Nat) (hk : 25 ≤ k) : impl_SingBest.f k l = some (BST l) := by
  unfold impl_SingBest.f BST SB
  rw [many_f l k hk, Option.bind_some]
  unfold SM
  have hn := prodL_nonneg (rowsOf l)
  cases hM : MV l with
  | false => rfl
  | true =>
    rw [if_pos rfl, Bool.true_and]
    by_cases h : 0 < prodL (rowsOf l)
    · rw [if_neg (by omega), if_pos (by rw [decide_eq_true_eq]; exact h)]
    · rw [if_pos (by omega), if_neg (by rw [decide_eq_true_eq]; exact h)]
def cnt : Int → List Int → Int
  | _, [] => 0
  | x, y :: t => (if y = x then 0 else 1) + cnt y t
def MU : List Int → Int
  | [] => 0
  | x :: t => cnt x t
theorem cnt_bd (s : List Int) : ∀ x, 0 ≤ cnt x s ∧ cnt x s ≤ s.length := by
  induction s with
  | nil => intro x; simp [cnt]
  | cons y t ih =>
    intro x
    have := ih y
    simp only [cnt, List.length_cons]
    split <;> omega
theorem MU_bd (s : List Int) : 0 ≤ MU s ∧ MU s ≤ s.length := by
  cases s with
  | nil => simp [MU]
  | cons x t => have := cnt_bd t x; simp only [MU, List.length_cons]; omega
theorem mui_l0 (s : List Int) (hb : s.length ≤ 1048576) : ∀ (d i k : Nat) (c : Int), i + d = s.length → d < k → 1 ≤ i → 0 ≤ c → c ≤ i → impl_SingMutations.l0 k s c (i : Int) = some (c + cnt (s.getD (i - 1) 0) (s.drop i)) := by
  intro d
  induction d with
  | zero =>
    intro i k c hi hk h1 h2 h3
    obtain ⟨k, rfl⟩ : ∃ m, k = m + 1 := ⟨k - 1, by omega⟩
    simp only [impl_SingMutations.l0]
    rw [if_neg (by omega), List.drop_eq_nil_of_le (by omega)]
    simp [cnt]
  | succ d ih =>
    intro i k c hi hk h1 h2 h3
    obtain ⟨k, rfl⟩ : ∃ m, k = m + 1 := ⟨k - 1, by omega⟩
    have hx : i < s.length := by omega
    have hy : i - 1 < s.length := by omega
    have e : wrap64 ((i : Int) - 1) = ((i - 1 : Nat) : Int) := by rw [w0 (by omega) (by omega)]; omega
    have ei : s.getD i 0 = s[i] := by rw [List.getD_eq_getElem?_getD, List.getElem?_eq_getElem hx]; rfl
    have ej : s.getD (i - 1) 0 = s[i - 1] := by rw [List.getD_eq_getElem?_getD, List.getElem?_eq_getElem hy]; rfl
    simp only [impl_SingMutations.l0]
    rw [e, if_pos (by omega), if_pos (by omega), if_pos (by omega), if_pos (by omega), rd_at s i hx, rd_at s (i - 1) hy, w1 (by omega), w0 (i := c + 1) (by omega) (by omega), ej, List.drop_eq_getElem_cons hx]
    have key := fun c h2 h3 => ih (i + 1) k c (by omega) (by omega) (by omega) h2 h3
    rw [Nat.add_sub_cancel, ei] at key
    simp only [cnt]
    by_cases h : s[i] = s[i - 1]
    · rw [if_pos h, if_pos h, key c (by omega) (by omega), Int.zero_add]
    · rw [if_neg h, if_neg h, key (c + 1) (by omega) (by omega), Int.add_assoc]
theorem mui_f (l : List S30) (s : List Int) (k : Nat) (hk : 60 ≤ k) : impl_SingMutations.f k l s = some (if SO l s = true then MU s else -1) := by
  unfold impl_SingMutations.f
  rw [soi_f l s k (by omega), Option.bind_some]
  by_cases h : SO l s = true
  · obtain ⟨h1, h2⟩ := SO_len h
    rw [if_pos h, if_pos h]
    cases s with
    | nil =>
      obtain ⟨k, rfl⟩ : ∃ m, k = m + 1 := ⟨k - 1, by omega⟩
      simp only [impl_SingMutations.l0]
      rw [if_neg (by simp)]
      rfl
    | cons x t =>
      have := mui_l0 (x :: t) (by omega) t.length 1 k 0 (by simp; omega) (by simp at h2; omega) (by omega) (by omega) (by omega)
      rw [show ((1 : Nat) : Int) = 1 from rfl] at this
      rw [this, Int.zero_add]
      rfl
  · rw [if_neg h, if_neg h]
theorem cnt_muts : ∀ (s : List Int) (x : Int), cnt x s = muts x s
  | [], x => rfl
  | y :: s, x => by
    simp only [cnt, muts, chg]
    rw [cnt_muts s y]
    by_cases h : x = y
    · rw [if_pos h.symm, if_pos h]
    · rw [if_neg (fun e => h e.symm), if_neg h]
theorem MU_mutL : ∀ s : List Int, MU s = mutL s
  | [] => rfl
  | x :: s => cnt_muts s x
theorem rdll_at (xs : List (List Int)) (i : Nat) (h : i < xs.length) : rd_L5 xs (i : Int) = xs[i] := by
  simp [rd_L5, List.getD_eq_getElem?_getD, h]
theorem rows_len (m : List S30) : (rowsOf m).length = m.length := by simp [rowsOf]
theorem rows_at (m : List S30) (i : Nat) (h : i < m.length) : (rowsOf m).getD i [] = rowOf m[i] := by
  rw [getD_at _ _ (by rw [rows_len]; exact h)]
  simp [rowsOf]
def ent (H : List (List Int)) (r : Nat) (s : Nat) : Int := if (s : Int) ∈ H.getD r [] then lst (s : Int) (H.drop (r + 1)) else -1
def tabRow (H : List (List Int)) (r : Nat) : List Int := (List.range 21).map (ent H r)
theorem tabRow_len (H : List (List Int)) (r : Nat) : (tabRow H r).length = 21 := by simp [tabRow]
theorem tabRow_at (H : List (List Int)) (r s : Nat) (h : s < (tabRow H r).length) : (tabRow H r)[s] = ent H r s := by simp [tabRow]
def tab (H : List (List Int)) (n i : Nat) : List (List Int) := (List.range n).map (fun r => if r < i then [] else tabRow H r)
theorem tab_len (H : List (List Int)) (n i : Nat) : (tab H n i).length = n := by simp [tab]
theorem tab_at (H : List (List Int)) (n i r : Nat) (h : r < (tab H n i).length) : (tab H n i)[r] = if r < i then [] else tabRow H r := by simp [tab]
theorem tab_set (H : List (List Int)) (n i : Nat) (hi : i < n) : (tab H n (i + 1)).set i (tabRow H i) = tab H n i := by
  apply List.ext_getElem (by rw [List.length_set, tab_len, tab_len])
  intro r h1 h2
  rw [List.getElem_set, tab_at, tab_at]
  by_cases e : i = r
  · subst e
    rw [if_pos rfl, if_neg (by omega)]
  · rw [if_neg e]
    by_cases h : r < i
    · rw [if_pos h, if_pos (by omega)]
    · rw [if_neg h, if_neg (by omega)]
/-- what the search over the next tone has found so far -/
def accF (h hs : List Int × List (List Int)) (s : Nat) (j : Nat) : Int := (((List.range j).filter (fun y : Nat => decide ((y : Int) ∈ h.1))).map (fun y : Nat => lst (y : Int) hs.2 + chg (s : Int) (y : Int))).foldl upd (-1)
def acc (h : List Int) (hs : List (List Int)) (s j : Nat) : Int := (((List.range j).filter (fun y : Nat => decide ((y : Int) ∈ h))).map (fun y : Nat => lst (y : Int) hs + chg (s : Int) (y : Int))).foldl upd (-1)
theorem acc_step (h : List Int) (hs : List (List Int)) (s j : Nat) : acc h hs s (j + 1) = if (j : Int) ∈ h then upd (acc h hs s j) (lst (j : Int) hs + chg (s : Int) (j : Int)) else acc h hs s j := by
  unfold acc
  rw [List.range_succ, List.filter_append, List.map_append, List.foldl_append]
  by_cases hj : (j : Int) ∈ h
  · rw [if_pos hj, List.filter_cons, if_pos (by rw [decide_eq_true_eq]; exact hj)]
    rfl
  · rw [if_neg hj, List.filter_cons, if_neg (by rw [decide_eq_true_eq]; exact hj)]
    rfl
theorem acc_all (a : Int) (b : Bool) (hs : List (List Int)) (s : Nat) : acc (hexOf a b 7) hs s 21 = lst (s : Int) (hexOf a b 7 :: hs) := by
  have e : lst (s : Int) (hexOf a b 7 :: hs) = ((hexOf a b 7).map (fun y => lst y hs + chg (s : Int) y)).foldl upd (-1) := ahd_eq _ _ _
  rw [e]
  conv => rhs; rw [← hexOf_filter a b]
  rw [List.map_map]
  rfl
theorem acc_bd (h : List Int) (hs : List (List Int)) (f : Full hs) (s : Nat) : ∀ j, -1 ≤ acc h hs s j ∧ acc h hs s j ≤ hs.length + 1
  | 0 => ⟨by simp [acc], by simp [acc]; omega⟩
  | j + 1 => by
    have ih := acc_bd h hs f s j
    rw [acc_step]
    split
    · have h1 := lst_bd hs f (j : Int)
      have h2 := lst_le_len hs f (j : Int)
      have h3 := chg_bd (s : Int) (j : Int)
      unfold upd
      split
      · omega
      · split <;> omega
    · exact ih
theorem fl2 (m : List S30) (N : Int) (T : List (List Int)) (P : List Int) (i s : Nat) (R : List (List Int)) (h : List Int) (hs : List (List Int)) (f : Full hs) (hsl : hs.length ≤ 24) (hi : i + 1 < T.length) (hT : T[i + 1] = (List.range 21).map (fun y : Nat => if (y : Int) ∈ h then lst (y : Int) hs else -1)) (hP : P.length = 21) (hs21 : s < 21) (hil : T.length ≤ 100) (K0 : Nat)
    (hc : ∀ k, K0 ≤ k → spec_l2Fewest.l1 k m N (T.set i (P.set s (acc h hs s 21))) (i : Int) ((s + 1 : Nat) : Int) = some R) :
    ∀ d j, j + d = 21 → ∀ k, K0 + d + 1 ≤ k → spec_l2Fewest.l2 k m N (T.set i (P.set s (acc h hs s j))) (i : Int) (s : Int) (j : Int) = some R := by
  intro d
  induction d with
  | zero =>
    intro j hj k hk
    obtain ⟨k, rfl⟩ : ∃ m, k = m + 1 := ⟨k - 1, by omega⟩
    obtain rfl : j = 21 := by omega
    simp only [spec_l2Fewest.l2]
    rw [if_neg (by omega), w1 (by omega)]
    exact hc k (by omega)
  | succ d ih =>
    intro j hj k hk
    obtain ⟨k, rfl⟩ : ∃ m, k = m + 1 := ⟨k - 1, by omega⟩
    have hTl : (T.set i (P.set s (acc h hs s j))).length = T.length := List.length_set
    have e1 : rd_L5 (T.set i (P.set s (acc h hs s j))) ((i + 1 : Nat) : Int) = (List.range 21).map (fun y : Nat => if (y : Int) ∈ h then lst (y : Int) hs else -1) := by
      rw [rdll_at _ _ (by rw [hTl]; exact hi), List.getElem_set_ne (by omega), hT]
    have e2 : rd_L5 (T.set i (P.set s (acc h hs s j))) (i : Int) = P.set s (acc h hs s j) := by
      rw [rdll_at _ _ (by rw [hTl]; omega), List.getElem_set_self]
    have e3 : rd ((List.range 21).map (fun y : Nat => if (y : Int) ∈ h then lst (y : Int) hs else -1)) (j : Int) = if (j : Int) ∈ h then lst (j : Int) hs else -1 := by
      rw [rd_at _ j (by simp; omega)]
      simp
    have e4 : rd (P.set s (acc h hs s j)) (s : Int) = acc h hs s j := by
      rw [rd_at _ s (by rw [List.length_set, hP]; exact hs21), List.getElem_set_self]
    have e5 : ∀ v : Int, (T.set i (P.set s (acc h hs s j))).set (i : Int).toNat ((P.set s (acc h hs s j)).set (s : Int).toNat v) = T.set i (P.set s v) := by
      intro v
      rw [Int.toNat_natCast, Int.toNat_natCast, List.set_set, List.set_set]
    have ihj := ih (j + 1) (by omega) k (by omega)
    rw [acc_step] at ihj
    have hlen : (((List.range 21).map (fun y : Nat => if (y : Int) ∈ h then lst (y : Int) hs else -1)).length : Int) = 21 := by simp
    simp only [spec_l2Fewest.l2]
    rw [if_pos (show (j : Int) ≤ 20 by omega), w1 (i := i) (by omega), if_pos (show (0 : Int) ≤ ((i + 1 : Nat) : Int) by omega), if_pos (show ((i + 1 : Nat) : Int) < ((T.set i (P.set s (acc h hs s j))).length : Int) by rw [hTl]; omega), if_pos (show (0 : Int) ≤ (j : Int) by omega), e1, if_pos (show (j : Int) < _ by rw [hlen]; omega), e3, w1 (i := j) (by omega)]
    by_cases hm : (j : Int) ∈ h
    · rw [if_pos hm] at ihj
      rw [if_pos hm]
      have h1 := lst_bd hs f (j : Int)
      have h2 := lst_le_len hs f (j : Int)
      have h3 := acc_bd h hs f s j
      rw [if_neg (show ¬ lst (j : Int) hs < 0 by omega)]
      have gi : (0 : Int) ≤ (i : Int) := by omega
      have gi2 : (i : Int) < ((T.set i (P.set s (acc h hs s j))).length : Int) := by rw [hTl]; omega
      have gs : (0 : Int) ≤ (s : Int) := by omega
      have gs2 : (s : Int) < ((P.set s (acc h hs s j)).length : Int) := by rw [List.length_set, hP]; omega
      by_cases hjs : (j : Int) = (s : Int)
      · rw [if_pos hjs, if_pos gi, if_pos gi2, if_pos gs, e2, if_pos gs2, e4, e5]
        have hch : lst (j : Int) hs + chg (s : Int) (j : Int) = lst (j : Int) hs := by unfold chg; rw [if_pos hjs.symm]; omega
        rw [hch] at ihj
        unfold upd at ihj
        by_cases ha : acc h hs s j < 0
        · rw [if_pos ha] at ihj ⊢
          exact ihj
        · rw [if_neg ha] at ihj ⊢
          by_cases hb : lst (j : Int) hs < acc h hs s j
          · rw [if_pos hb] at ihj ⊢
            exact ihj
          · rw [if_neg hb] at ihj ⊢
            exact ihj
      · rw [if_neg hjs, if_pos gi, if_pos gi2, if_pos gs, e2, if_pos gs2, e4, w0 (i := lst (j : Int) hs + 1) (by omega) (by omega), e5]
        have hch : lst (j : Int) hs + chg (s : Int) (j : Int) = lst (j : Int) hs + 1 := by unfold chg; rw [if_neg (fun e => hjs e.symm)]
        rw [hch] at ihj
        unfold upd at ihj
        by_cases ha : acc h hs s j < 0
        · rw [if_pos ha] at ihj ⊢
          exact ihj
        · rw [if_neg ha] at ihj ⊢
          by_cases hb : lst (j : Int) hs + 1 < acc h hs s j
          · rw [if_pos hb] at ihj ⊢
            exact ihj
          · rw [if_neg hb] at ihj ⊢
            exact ihj
    · rw [if_neg hm] at ihj
      rw [if_neg hm, if_pos (by decide)]
      exact ihj
def prow (H : List (List Int)) (i s : Nat) : List Int := (tabRow H i).take s ++ List.replicate (21 - s) 0
theorem prow_len (H : List (List Int)) (i s : Nat) (h : s ≤ 21) : (prow H i s).length = 21 := by
  unfold prow
  rw [List.length_append, List.length_take, tabRow_len, List.length_replicate]
  omega
theorem prow_step (H : List (List Int)) (i s : Nat) (h : s < 21) : (prow H i s).set s (ent H i s) = prow H i (s + 1) := by
  have hs : s < (tabRow H i).length := by rw [tabRow_len]; exact h
  unfold prow
  rw [List.set_append_right _ _ (by rw [List.length_take]; omega), List.length_take, Nat.min_eq_left (by omega), Nat.sub_self, show 21 - s = (21 - (s + 1)) + 1 by omega, List.replicate_succ, List.set_cons_zero, List.take_succ_eq_append_getElem hs, tabRow_at, List.append_assoc]
  rfl
theorem prow_all (H : List (List Int)) (i : Nat) : prow H i 21 = tabRow H i := by
  unfold prow
  rw [List.take_of_length_le (by rw [tabRow_len]; exact Nat.le_refl _)]
  simp
theorem fl1 (m : List S30) (hm : m.length ≤ 24) (fu : Full (rowsOf m)) (i : Nat) (hi : i < m.length) (R : List (List Int)) (K0 : Nat) (hK : 10 ≤ K0)
    (hc : ∀ k, K0 ≤ k → spec_l2Fewest.l0 k m (m.length : Int) (tab (rowsOf m) m.length i) ((i : Int) - 1) = some R) :
    ∀ d s, s + d = 21 → ∀ k, K0 + 24 * d + 1 ≤ k → spec_l2Fewest.l1 k m (m.length : Int) ((tab (rowsOf m) m.length (i + 1)).set i (prow (rowsOf m) i s)) (i : Int) (s : Int) = some R := by
  intro d
  induction d with
  | zero =>
    intro s hs k hk
    obtain ⟨k, rfl⟩ : ∃ m, k = m + 1 := ⟨k - 1, by omega⟩
    obtain rfl : s = 21 := by omega
    simp only [spec_l2Fewest.l1]
    rw [if_neg (by omega), w0 (i := (i : Int) - 1) (by omega) (by omega), prow_all, tab_set _ _ _ hi]
    exact hc k (by omega)
  | succ d ih =>
    intro s hs k hk
    obtain ⟨k, rfl⟩ : ∃ m, k = m + 1 := ⟨k - 1, by omega⟩
    have hTl : ∀ P : List Int, ((tab (rowsOf m) m.length (i + 1)).set i P).length = m.length := fun P => by rw [List.length_set, tab_len]
    have e2 : ∀ P : List Int, rd_L5 ((tab (rowsOf m) m.length (i + 1)).set i P) (i : Int) = P := fun P => by
      rw [rdll_at _ _ (by rw [hTl]; exact hi), List.getElem_set_self]
    have hpl := prow_len (rowsOf m) i s (by omega)
    have e5 : ∀ v : Int, ((tab (rowsOf m) m.length (i + 1)).set i (prow (rowsOf m) i s)).set (i : Int).toNat ((prow (rowsOf m) i s).set (s : Int).toNat v) = (tab (rowsOf m) m.length (i + 1)).set i ((prow (rowsOf m) i s).set s v) := by
      intro v
      rw [Int.toNat_natCast, Int.toNat_natCast, List.set_set]
    have e6 : ∀ v : Int, ((tab (rowsOf m) m.length (i + 1)).set i ((prow (rowsOf m) i s).set s (-1))).set (i : Int).toNat (((prow (rowsOf m) i s).set s (-1)).set (s : Int).toNat v) = (tab (rowsOf m) m.length (i + 1)).set i ((prow (rowsOf m) i s).set s v) := by
      intro v
      rw [Int.toNat_natCast, Int.toNat_natCast, List.set_set, List.set_set]
    have hstep := prow_step (rowsOf m) i s (by omega)
    have ihs := fun k hk => ih (s + 1) (by omega) k hk
    rw [← hstep] at ihs
    have hmem : (s : Int) ∈ (rowsOf m).getD i [] ↔ 0 ≤ sylF (s : Int) m[i].f0 m[i].f1 := by
      rw [rows_at m i hi]
      exact mem_hex m[i].f0 m[i].f1 (s : Int)
    simp only [spec_l2Fewest.l1]
    rw [if_pos (show (s : Int) ≤ 20 by omega), if_pos (show (0 : Int) ≤ (i : Int) by omega), if_pos (show (i : Int) < _ by rw [hTl]; omega), if_pos (show (0 : Int) ≤ (s : Int) by omega), e2, if_pos (show (s : Int) < ((prow (rowsOf m) i s).length : Int) by rw [hpl]; omega), e5, Option.bind_some, if_pos (show (i : Int) < (m.length : Int) by omega), rdt_at m i hi, syls_f _ _ _ k (by omega), Option.bind_some, w1 (by omega), w0 (i := (m.length : Int) - 1) (by omega) (by omega)]
    by_cases hneg : sylF (s : Int) m[i].f0 m[i].f1 < 0
    · rw [if_pos hneg]
      have he : ent (rowsOf m) i s = -1 := by unfold ent; rw [if_neg (fun hx => by have := hmem.1 hx; omega)]
      rw [he] at ihs
      exact ihs k (by omega)
    · rw [if_neg hneg]
      have hin : (s : Int) ∈ (rowsOf m).getD i [] := hmem.2 (by omega)
      by_cases hlast : (i : Int) = (m.length : Int) - 1
      · have he : ent (rowsOf m) i s = 0 := by
          unfold ent
          rw [if_pos hin, List.drop_eq_nil_of_le (by rw [rows_len]; omega)]
          rfl
        rw [if_pos hlast, e2, if_pos (show (s : Int) < (((prow (rowsOf m) i s).set s (-1)).length : Int) by rw [List.length_set, hpl]; omega), e6]
        rw [he] at ihs
        exact ihs k (by omega)
      · have hi1 : i + 1 < m.length := by omega
        have hdr : (rowsOf m).drop (i + 1) = rowOf m[i + 1] :: (rowsOf m).drop (i + 2) := by
          rw [drop_cons (rowsOf m) (i + 1) (by rw [rows_len]; exact hi1), rows_at m (i + 1) hi1]
        have he : ent (rowsOf m) i s = acc (rowOf m[i + 1]) ((rowsOf m).drop (i + 2)) s 21 := by
          unfold ent
          rw [if_pos hin, hdr]
          exact (acc_all m[i + 1].f0 m[i + 1].f1 _ s).symm
        rw [if_neg hlast]
        rw [he] at ihs
        have hfd : Full ((rowsOf m).drop (i + 2)) := full_drop fu (i + 2)
        have := fl2 m (m.length : Int) (tab (rowsOf m) m.length (i + 1)) (prow (rowsOf m) i s) i s R (rowOf m[i + 1]) ((rowsOf m).drop (i + 2)) hfd (by rw [List.length_drop, rows_len]; omega) (by rw [tab_len]; exact hi1) (by
          rw [tab_at, if_neg (by omega)]
          unfold tabRow
          apply List.map_congr_left
          intro y _
          unfold ent
          rw [rows_at m (i + 1) hi1]) hpl (by omega) (by rw [tab_len]; omega) (K0 + 24 * d + 1) (fun k hk => ihs k hk) 21 0 (by omega) k (by omega)
        exact this
theorem fl0 (m : List S30) (hm : m.length ≤ 24) (fu : Full (rowsOf m)) : ∀ i, i ≤ m.length → ∀ k, 600 * i + 11 ≤ k → spec_l2Fewest.l0 k m (m.length : Int) (tab (rowsOf m) m.length i) ((i : Int) - 1) = some (tab (rowsOf m) m.length 0) := by
  intro i
  induction i with
  | zero =>
    intro _ k hk
    obtain ⟨k, rfl⟩ : ∃ m, k = m + 1 := ⟨k - 1, by omega⟩
    simp only [spec_l2Fewest.l0]
    rw [if_neg (by omega)]
  | succ i ih =>
    intro hi k hk
    obtain ⟨k, rfl⟩ : ∃ m, k = m + 1 := ⟨k - 1, by omega⟩
    have e1 : ((i + 1 : Nat) : Int) - 1 = (i : Int) := by omega
    rw [e1]
    simp only [spec_l2Fewest.l0]
    rw [if_pos (show (i : Int) ≥ 0 by omega), if_pos (by decide), if_pos (show (0 : Int) ≤ (i : Int) by omega), if_pos (show (i : Int) < _ by rw [tab_len]; omega), Int.toNat_natCast]
    have := fl1 m hm fu i (by omega) _ (600 * i + 11) (by omega) (fun k hk => ih (by omega) k hk) 21 0 (by omega) k (by omega)
    exact this
theorem few_f (m : List S30) (hm : m.length ≤ 24) (fu : Full (rowsOf m)) (k : Nat) (hk : 600 * m.length + 11 ≤ k) : spec_l2Fewest.f k m = some (tab (rowsOf m) m.length 0) := by
  unfold spec_l2Fewest.f
  rw [if_pos (by omega), if_pos (by omega), Int.toNat_natCast, w0 (i := (m.length : Int) - 1) (by omega) (by omega)]
  have e : List.replicate m.length ([] : List Int) = tab (rowsOf m) m.length m.length := by
    apply List.ext_getElem (by rw [List.length_replicate, tab_len])
    intro r h1 h2
    rw [tab_at, List.getElem_replicate, if_pos (by rw [tab_len] at h2; exact h2)]
  rw [e]
  exact fl0 m hm fu m.length (Nat.le_refl _) k hk
def pk1 (g : Int → Int) (h : List Int) (j : Nat) : Int × Int := pickS g (((List.range j).filter (fun y : Nat => decide ((y : Int) ∈ h))).map (fun y : Nat => (y : Int))) (-1, -1)
theorem pk1_step (g : Int → Int) (h : List Int) (j : Nat) : pk1 g h (j + 1) = if (j : Int) ∈ h then (if (pk1 g h j).2 < 0 ∨ g (j : Int) < (pk1 g h j).2 then ((j : Int), g (j : Int)) else pk1 g h j) else pk1 g h j := by
  unfold pk1
  rw [List.range_succ, List.filter_append, List.map_append]
  by_cases hj : (j : Int) ∈ h
  · rw [if_pos hj, List.filter_cons, if_pos (show decide ((j : Int) ∈ h) = true by rw [decide_eq_true_eq]; exact hj)]
    exact pickS_snoc g _ _ _
  · rw [if_neg hj, List.filter_cons, if_neg (show ¬ decide ((j : Int) ∈ h) = true by rw [decide_eq_true_eq]; exact hj)]
    simp
theorem pk1_inv (g : Int → Int) (h : List Int) (hg : ∀ y, 0 ≤ g y ∧ g y ≤ 30) : ∀ j, pk1 g h j = (-1, -1) ∨ (0 ≤ (pk1 g h j).1 ∧ 0 ≤ (pk1 g h j).2 ∧ (pk1 g h j).2 ≤ 30)
  | 0 => .inl rfl
  | j + 1 => by
    have ih := pk1_inv g h hg j
    rw [pk1_step]
    by_cases hj : (j : Int) ∈ h
    · rw [if_pos hj]
      split
      · exact .inr ⟨by show 0 ≤ (j : Int); omega, (hg (j : Int)).1, (hg (j : Int)).2⟩
      · exact ih
    · rw [if_neg hj]
      exact ih
theorem pk1_all (g : Int → Int) (a : Int) (b : Bool) : pk1 g (hexOf a b 7) 21 = pickS g (hexOf a b 7) (-1, -1) := by
  unfold pk1
  rw [hexOf_filter]
theorem bs2 (m : List S30) (acc : List Int) (T : List (List Int)) (i : Nat) (h : List Int) (hs : List (List Int)) (f : Full hs) (hsl : hs.length ≤ 24) (p : Option Int) (hi : i < T.length) (hil : i ≤ 24) (hT : T[i] = (List.range 21).map (fun y : Nat => if (y : Int) ∈ h then lst (y : Int) hs else -1)) (hacc : acc.length = i) (hp : (i = 0 ∧ p = none) ∨ (0 < i ∧ p = some (acc.getD (i - 1) 0))) (R : List Int × Bool) (K0 : Nat)
    (hc : ∀ k, K0 ≤ k → spec_SingBest.l1 k m (acc ++ [(pk1 (fun y => lst y hs + pre p y) h 21).1]) T ((i + 1 : Nat) : Int) = some R) :
    ∀ d j, j + d = 21 → ∀ k, K0 + 2 * d + 1 ≤ k → spec_SingBest.l2 k m acc T (i : Int) (pk1 (fun y => lst y hs + pre p y) h j).1 (pk1 (fun y => lst y hs + pre p y) h j).2 (j : Int) = some R := by
  intro d
  induction d with
  | zero =>
    intro j hj k hk
    obtain ⟨k, rfl⟩ : ∃ m, k = m + 1 := ⟨k - 1, by omega⟩
    obtain rfl : j = 21 := by omega
    simp only [spec_SingBest.l2]
    rw [if_neg (by omega), if_pos (show acc.length < 17592186044416 by omega), w1 (by omega)]
    exact hc k (by omega)
  | succ d ih =>
    intro j hj k hk
    obtain ⟨k, rfl⟩ : ∃ m, k = m + 1 := ⟨k - 1, by omega⟩
    have hg : ∀ y, 0 ≤ lst y hs + pre p y ∧ lst y hs + pre p y ≤ 30 := fun y => by
      have h1 := lst_bd hs f y
      have h2 := lst_le_len hs f y
      have h3 := pre_bd p y
      omega
    have hinv := pk1_inv (fun y => lst y hs + pre p y) h hg j
    have ihj := fun k hk => ih (j + 1) (by omega) k hk
    rw [pk1_step] at ihj
    obtain ⟨P, hP⟩ : ∃ P, P = pk1 (fun y => lst y hs + pre p y) h j := ⟨_, rfl⟩
    rw [← hP] at ihj hinv ⊢
    have e1 : rd_L5 T (i : Int) = (List.range 21).map (fun y : Nat => if (y : Int) ∈ h then lst (y : Int) hs else -1) := by rw [rdll_at _ _ hi, hT]
    have e3 : rd ((List.range 21).map (fun y : Nat => if (y : Int) ∈ h then lst (y : Int) hs else -1)) (j : Int) = if (j : Int) ∈ h then lst (j : Int) hs else -1 := by
      rw [rd_at _ j (by simp; omega)]
      simp
    have hlen : (((List.range 21).map (fun y : Nat => if (y : Int) ∈ h then lst (y : Int) hs else -1)).length : Int) = 21 := by simp
    simp only [spec_SingBest.l2]
    rw [if_pos (show (j : Int) ≤ 20 by omega), if_pos (show (0 : Int) ≤ (i : Int) by omega), if_pos (show (i : Int) < (T.length : Int) by omega), if_pos (show (0 : Int) ≤ (j : Int) by omega), e1, if_pos (show (j : Int) < _ by rw [hlen]; omega), e3, w1 (i := j) (by omega)]
    by_cases hm : (j : Int) ∈ h
    · rw [if_pos hm] at ihj
      rw [if_pos hm]
      have h1 := lst_bd hs f (j : Int)
      have h2 := lst_le_len hs f (j : Int)
      rw [if_neg (show ¬ lst (j : Int) hs < 0 by omega)]
      have hcond : ∀ v : Int, (P.2 < 0 ∨ v < P.2) ↔ (P.1 < 0 ∨ v < P.2) := by
        intro v
        rcases hinv with e | ⟨q1, q2, _⟩
        · rw [e]
        · constructor
          · rintro (h | h)
            · omega
            · exact .inr h
          · rintro (h | h)
            · omega
            · exact .inr h
      obtain ⟨k, rfl⟩ : ∃ m, k = m + 1 := ⟨k - 1, by omega⟩
      have fin : ∀ v : Int, v = lst (j : Int) hs + pre p (j : Int) → (if P.1 < 0 then spec_SingBest.l2 k m acc T (i : Int) (j : Int) v ((j + 1 : Nat) : Int) else if v < P.2 then spec_SingBest.l2 k m acc T (i : Int) (j : Int) v ((j + 1 : Nat) : Int) else spec_SingBest.l2 k m acc T (i : Int) P.1 P.2 ((j + 1 : Nat) : Int)) = some R := by
        intro v hv
        have q := ihj k (by omega)
        simp only [hcond, ← hv] at q
        by_cases ha : P.1 < 0
        · rw [if_pos ha]
          rw [if_pos (.inl ha)] at q
          exact q
        · rw [if_neg ha]
          by_cases hb : v < P.2
          · rw [if_pos hb]
            rw [if_pos (.inr hb)] at q
            exact q
          · rw [if_neg hb]
            rw [if_neg (by rintro (x | x); exact ha x; exact hb x)] at q
            exact q
      rcases hp with ⟨hi0, rfl⟩ | ⟨hi0, rfl⟩
      · rw [if_neg (show ¬ (i : Int) > 0 by omega)]
        simp only [spec_SingBest.j3]
        rw [if_neg (by decide), w1 (i := j) (by omega)]
        exact fin _ (by simp [pre])
      · have ei : wrap64 ((i : Int) - 1) = ((i - 1 : Nat) : Int) := by rw [w0 (by omega) (by omega)]; omega
        have er : rd acc ((i - 1 : Nat) : Int) = acc.getD (i - 1) 0 := by rw [rd_at _ _ (by omega), getD_at _ _ (by omega)]
        rw [if_pos (show (i : Int) > 0 by omega), ei, if_pos (show (0 : Int) ≤ ((i - 1 : Nat) : Int) by omega), if_pos (show ((i - 1 : Nat) : Int) < (acc.length : Int) by omega), er]
        simp only [spec_SingBest.j3]
        rw [w1 (i := j) (by omega), w0 (i := lst (j : Int) hs + 1) (by omega) (by omega)]
        by_cases he : (j : Int) = acc.getD (i - 1) 0
        · rw [show ((j : Int) != acc.getD (i - 1) 0) = false from bne_eq_false_iff_eq.mpr he, if_neg (by decide)]
          refine fin _ ?_
          show lst (j : Int) hs = lst (j : Int) hs + chg (acc.getD (i - 1) 0) (j : Int)
          unfold chg
          rw [if_pos he.symm]
          omega
        · rw [show ((j : Int) != acc.getD (i - 1) 0) = true from bne_iff_ne.mpr he, if_pos rfl]
          refine fin _ ?_
          show lst (j : Int) hs + 1 = lst (j : Int) hs + chg (acc.getD (i - 1) 0) (j : Int)
          unfold chg
          rw [if_neg (fun x => he x.symm)]
    · rw [if_neg hm] at ihj
      rw [if_neg hm, if_pos (by decide)]
      exact ihj k (by omega)
theorem bs1 (m : List S30) (hm : m.length ≤ 24) (fu : Full (rowsOf m)) : ∀ (d i k : Nat), i + d = m.length → 50 * d + 1 ≤ k → spec_SingBest.l1 k m ((best none (rowsOf m)).take i) (tab (rowsOf m) m.length 0) (i : Int) = some (best none (rowsOf m), true) := by
  intro d
  induction d with
  | zero =>
    intro i k hi hk
    obtain ⟨k, rfl⟩ : ∃ m, k = m + 1 := ⟨k - 1, by omega⟩
    simp only [spec_SingBest.l1]
    rw [if_neg (by omega), List.take_of_length_le (by rw [best_len, rows_len]; omega)]
  | succ d ih =>
    intro i k hi hk
    obtain ⟨k, rfl⟩ : ∃ m, k = m + 1 := ⟨k - 1, by omega⟩
    have hlt : i < m.length := by omega
    have hB : i < (best none (rowsOf m)).length := by rw [best_len, rows_len]; exact hlt
    have hacc : ((best none (rowsOf m)).take i).length = i := by rw [List.length_take]; omega
    simp only [spec_SingBest.l1]
    rw [if_pos (by omega)]
    have hb := best_at (rowsOf m) none i (by rw [rows_len]; exact hlt)
    rw [rows_at m i hlt] at hb
    have hp : (i = 0 ∧ prv none (best none (rowsOf m)) i = none) ∨ (0 < i ∧ prv none (best none (rowsOf m)) i = some (((best none (rowsOf m)).take i).getD (i - 1) 0)) := by
      cases i with
      | zero => exact .inl ⟨rfl, rfl⟩
      | succ i =>
        refine .inr ⟨by omega, ?_⟩
        show some ((best none (rowsOf m)).getD i 0) = _
        rw [getD_at _ _ (by omega), getD_at _ _ (by omega)]
        simp
    have hfd : Full ((rowsOf m).drop (i + 1)) := full_drop fu (i + 1)
    have := bs2 m ((best none (rowsOf m)).take i) (tab (rowsOf m) m.length 0) i (rowOf m[i]) ((rowsOf m).drop (i + 1)) hfd (by rw [List.length_drop, rows_len]; omega) (prv none (best none (rowsOf m)) i) (by rw [tab_len]; exact hlt) (by omega) (by
      rw [tab_at, if_neg (by omega)]
      unfold tabRow
      apply List.map_congr_left
      intro y _
      unfold ent
      rw [rows_at m i hlt]) hacc hp (best none (rowsOf m), true) (50 * d + 1) (fun k hk => by
      have e : (pk1 (fun y => lst y ((rowsOf m).drop (i + 1)) + pre (prv none (best none (rowsOf m)) i) y) (rowOf m[i]) 21).1 = (best none (rowsOf m))[i] := by
        rw [← getD_at _ _ hB 0, hb]
        unfold rowOf fst1
        rw [pk1_all]
      rw [e, ← List.take_succ_eq_append_getElem hB]
      exact ih (i + 1) k (by omega) hk) 21 0 (by omega) k (by omega)
    exact this
theorem bs0_full (m : List S30) (hm : m.length ≤ 24) (fu : Full (rowsOf m)) : ∀ (d i k : Nat), i + d = m.length → 600 * m.length + 60 + d ≤ k → spec_SingBest.l0 k m [] (i : Int) = some (best none (rowsOf m), true) := by
  intro d
  induction d with
  | zero =>
    intro i k hi hk
    obtain ⟨k, rfl⟩ : ∃ m, k = m + 1 := ⟨k - 1, by omega⟩
    simp only [spec_SingBest.l0]
    rw [if_neg (by omega), few_f m hm fu k (by omega), Option.bind_some]
    exact bs1 m hm fu m.length 0 k (by omega) (by omega)
  | succ d ih =>
    intro i k hi hk
    obtain ⟨k, rfl⟩ : ∃ m, k = m + 1 := ⟨k - 1, by omega⟩
    have hlt : i < m.length := by omega
    have hr : rowOf m[i] ≠ [] := fu _ (List.mem_map.2 ⟨m[i], List.getElem_mem hlt, rfl⟩)
    have hr2 := List.length_pos_iff.2 hr
    simp only [spec_SingBest.l0]
    rw [if_pos (by omega), if_pos (by omega), rdt_at m i hlt, hexalls_f _ _ k (by omega), Option.bind_some, if_neg (show ¬ ((hexOf m[i].f0 m[i].f1 7).length : Int) = 0 by unfold rowOf at hr2; omega), w1 (by omega)]
    exact ih (i + 1) k (by omega) (by omega)
theorem bs0_none (m : List S30) (hm : m.length ≤ 24) : ∀ (d i k : Nat), i + d = m.length → 60 + d ≤ k → ¬ Full (rowsOf (m.drop i)) → spec_SingBest.l0 k m [] (i : Int) = some ([], false) := by
  intro d
  induction d with
  | zero =>
    intro i k hi hk hn
    rw [List.drop_eq_nil_of_le (by omega)] at hn
    exact absurd (fun x hx => absurd hx (List.not_mem_nil)) hn
  | succ d ih =>
    intro i k hi hk hn
    obtain ⟨k, rfl⟩ : ∃ m, k = m + 1 := ⟨k - 1, by omega⟩
    have hlt : i < m.length := by omega
    simp only [spec_SingBest.l0]
    rw [if_pos (by omega), if_pos (by omega), rdt_at m i hlt, hexalls_f _ _ k (by omega), Option.bind_some]
    by_cases hr : ((hexOf m[i].f0 m[i].f1 7).length : Int) = 0
    · rw [if_pos hr]
    · rw [if_neg hr, w1 (by omega)]
      refine ih (i + 1) k (by omega) (by omega) (fun hf => hn ?_)
      rw [List.drop_eq_getElem_cons hlt]
      intro x hx
      rcases List.mem_cons.1 hx with rfl | hx
      · intro e
        have e' : hexOf m[i].f0 m[i].f1 7 = [] := e
        rw [e'] at hr
        exact hr rfl
      · exact hf x hx
theorem bests_f (m : List S30) (hb : m.length ≤ 1048576) (k : Nat) (hk : m.length + 15000 ≤ k) : spec_SingBest.f k m = some (BST m) := by
  unfold spec_SingBest.f BST
  simp only [Option.bind_some]
  rw [mvs_f m hb k (by omega), Option.bind_some]
  by_cases h : MV m = true
  · have hm := MV_len h
    rw [if_pos h]
    by_cases hs : SB m = true
    · rw [if_pos hs]
      exact bs0_full m hm ((SB_iff m).1 hs).2 m.length 0 k (by omega) (by omega)
    · rw [if_neg hs]
      exact bs0_none m hm m.length 0 k (by omega) (by omega) (fun hf => hs ((SB_iff m).2 ⟨h, by rwa [List.drop_zero] at hf⟩))
  · rw [if_neg h, if_neg (fun hs => h ((SB_iff m).1 hs).1)]
theorem SG_fits : ∀ (m : List S30) (s : List Int), s.length = m.length → (SG m s = true ↔ Fits (rowsOf m) s)
  | [], [], _ => ⟨fun _ => .nil, fun _ => rfl⟩
  | [], x :: s, h => by simp at h
  | t :: m, [], h => by simp at h
  | t :: m, x :: s, h => by
    have ih := SG_fits m s (by simpa using h)
    have hm := mem_hex t.f0 t.f1 x
    show (if sylF x t.f0 t.f1 < 0 then false else SG m s) = true ↔ Fits (rowOf t :: rowsOf m) (x :: s)
    constructor
    · intro hs
      by_cases hx : sylF x t.f0 t.f1 < 0
      · rw [if_pos hx] at hs
        exact absurd hs (by decide)
      · rw [if_neg hx] at hs
        exact .cons (hm.2 (by omega)) (ih.1 hs)
    · intro hf
      cases hf with
      | cons hx hr =>
        rw [if_neg (by have := hm.1 hx; omega)]
        exact ih.2 hr
theorem SO_iff {m : List S30} {s : List Int} : SO m s = true ↔ MV m = true ∧ Fits (rowsOf m) s := by
  unfold SO
  rw [Bool.and_eq_true, Bool.and_eq_true, decide_eq_true_eq]
  constructor
  · rintro ⟨h1, h2, h3⟩
    exact ⟨h1, (SG_fits m s h2).1 h3⟩
  · rintro ⟨h1, h2⟩
    have hl := fits_len h2
    rw [rows_len] at hl
    exact ⟨h1, hl, (SG_fits m s hl).2 h2⟩
theorem mutv (m : List S30) (s : List Int) (k : Nat) (hk : 60 ≤ k) (hM : MV m = true) (hf : Fits (rowsOf m) s) : impl_SingMutations.f k m s = some (mutL s) := by
  rw [mui_f m s k hk, if_pos (SO_iff.2 ⟨hM, hf⟩), MU_mutL]
theorem sameI_l0 (xs : List Int) (hb : xs.length ≤ 1048576) : ∀ (d i k : Nat), i + d = xs.length → d < k → laws_sameInts.l0 k xs xs (i : Int) = some true := by
  intro d
  induction d with
  | zero =>
    intro i k hi hk
    obtain ⟨k, rfl⟩ : ∃ m, k = m + 1 := ⟨k - 1, by omega⟩
    simp only [laws_sameInts.l0]
    rw [if_neg (by omega)]
  | succ d ih =>
    intro i k hi hk
    obtain ⟨k, rfl⟩ : ∃ m, k = m + 1 := ⟨k - 1, by omega⟩
    simp only [laws_sameInts.l0]
    rw [if_pos (by omega), if_pos (by omega), if_pos (by omega), if_pos trivial, w1 (by omega)]
    exact ih (i + 1) k (by omega) (by omega)
theorem sameI_f (xs : List Int) (k : Nat) (hb : xs.length ≤ 1048576) (hk : xs.length < k) : laws_sameInts.f k xs xs = some true := by
  unfold laws_sameInts.f
  rw [if_pos rfl]
  simpa using sameI_l0 xs hb xs.length 0 k (by omega) hk
theorem xor_nn (a b : Int) (ha : 0 ≤ a) (ha' : a < 4611686018427387904) (hb : 0 ≤ b) (hb' : b < 4611686018427387904) : 0 ≤ Go.bits .xor .i64 a b := by
  obtain ⟨x, rfl⟩ := Int.eq_ofNat_of_zero_le ha
  obtain ⟨y, rfl⟩ := Int.eq_ofNat_of_zero_le hb
  have hx : x ^^^ y < 2 ^ 62 := Nat.xor_lt_two_pow (by omega) (by omega)
  have h1 : (BitVec.ofInt 64 (x : Int)).toNat = x := by
    rw [BitVec.ofInt_natCast, BitVec.toNat_ofNat]; exact Nat.mod_eq_of_lt (by omega)
  have h2 : (BitVec.ofInt 64 (y : Int)).toNat = y := by
    rw [BitVec.ofInt_natCast, BitVec.toNat_ofNat]; exact Nat.mod_eq_of_lt (by omega)
  have e : Go.bits .xor .i64 (x : Int) (y : Int) = IntKind.i64.wrap (((x ^^^ y : Nat)) : Int) := by
    show IntKind.i64.wrap ((BitVec.ofInt 64 (x : Int) ^^^ BitVec.ofInt 64 (y : Int)).toNat : Int) = _
    rw [BitVec.toNat_xor, h1, h2]
  rw [e, IntWalk.i64_in _ (by omega)]
  omega
/-- A list of bytes. -/
def Bytes (l : List Int) : Prop := ∀ n ∈ l, 0 ≤ n ∧ n ≤ 255
theorem rd_byte {l : List Int} (h : Bytes l) (i : Int) (h0 : 0 ≤ i) (h1 : i < (l.length : Int)) : 0 ≤ rd l i ∧ rd l i ≤ 255 := by
  obtain ⟨n, rfl⟩ := Int.eq_ofNat_of_zero_le h0
  have hn : n < l.length := by omega
  rw [rd_at l n hn]
  exact h _ (List.getElem_mem hn)
theorem tm_bd (a n : Int) (ha : 0 ≤ a) (hn : 0 < n) : 0 ≤ Int.tmod a n ∧ Int.tmod a n < n := by
  rw [Int.tmod_eq_emod_of_nonneg ha]
  exact ⟨Int.emod_nonneg _ (by omega), Int.emod_lt_of_pos _ hn⟩
theorem td_bd (a n : Int) (ha : 0 ≤ a) (hn : 0 < n) : 0 ≤ Int.tdiv a n ∧ Int.tdiv a n ≤ a := by
  rw [Int.tdiv_eq_ediv_of_nonneg ha]
  exact ⟨Int.ediv_nonneg ha (by omega), Int.ediv_le_self _ ha⟩
theorem pick_some (l : List Int) (hl : Bytes l) (hn : l.length ≤ 2000) (p n : Int) (hp : 0 ≤ p) (hp' : p ≤ 1000000) (h1 : 1 ≤ n) (h2 : n ≤ 1000000) :
    ∃ v, 0 ≤ v ∧ v < n ∧ ∀ k, spec_l6Rd_pick.f (k + 1) l p n = some (v, p + 1) := by
  unfold spec_l6Rd_pick.f
  simp only [spec_l6Rd_pick.j0]
  rw [if_neg (show ¬ n < 1 by omega), w0 (i := p + 1) (by omega) (by omega), show p + 1 - 1 = p by omega, w0 (i := p) (by omega) (by omega)]
  by_cases hl0 : l.length = 0
  · refine ⟨0, by omega, by omega, fun k => ?_⟩
    rw [if_pos (show ((l.length : Int) == 0) = true by rw [hl0]; rfl)]
  · rw [if_neg (show ¬ (((l.length : Int) == 0) = true) from fun h => hl0 (by have := beq_iff_eq.1 h; omega))]
    have hlp : (0 : Int) < (l.length : Int) := by omega
    by_cases hpl : p < (l.length : Int)
    · obtain ⟨b0, b1⟩ := rd_byte hl p hp hpl
      rw [if_pos hpl, if_pos hp, if_neg (show ¬ n = 0 by omega), w0 (i := rd l p) (by omega) (by omega)]
      obtain ⟨t0, t1⟩ := tm_bd (rd l p) n b0 (by omega)
      exact ⟨_, t0, t1, fun _ => rfl⟩
    · rw [if_neg hpl, if_neg (show ¬ (l.length : Int) = 0 by omega), w0 (i := p * 7) (by omega) (by omega), w0 (i := p * 7 + 3) (by omega) (by omega)]
      obtain ⟨i0, i1⟩ := tm_bd p (l.length : Int) hp hlp
      obtain ⟨j0, j1⟩ := tm_bd (p * 7 + 3) (l.length : Int) (by omega) hlp
      obtain ⟨q0, q1⟩ := td_bd p (l.length : Int) hp hlp
      rw [if_pos i0, if_pos i1, if_pos j0, if_pos j1, if_neg (show ¬ n = 0 by omega)]
      obtain ⟨a0, a1⟩ := rd_byte hl _ i0 i1
      obtain ⟨b0, b1⟩ := rd_byte hl _ j0 j1
      generalize rd l (Int.tmod p (l.length : Int)) = a at a0 a1 ⊢
      generalize rd l (Int.tmod (p * 7 + 3) (l.length : Int)) = b at b0 b1 ⊢
      generalize Int.tdiv p (l.length : Int) = q at q0 q1 ⊢
      simp (disch := omega) only [w0]
      have x0 : 0 ≤ a * 131 + b * 1117 + p * 29 + q * 53 := by omega
      obtain ⟨d0, d1⟩ := td_bd (a * 131 + b * 1117 + p * 29 + q * 53) 64 x0 (by omega)
      rw [w0 (i := Int.tdiv (a * 131 + b * 1117 + p * 29 + q * 53) 64) (by omega) (by omega)]
      obtain ⟨t0, t1⟩ := tm_bd (Go.bits .xor .i64 (a * 131 + b * 1117 + p * 29 + q * 53) (Int.tdiv (a * 131 + b * 1117 + p * 29 + q * 53) 64)) n (xor_nn _ _ x0 (by omega) d0 (by omega)) (by omega)
      exact ⟨_, t0, t1, fun _ => rfl⟩
/-- What a reader's pick answers. -/
def pk (l : List Int) (p n : Int) : Int := ((spec_l6Rd_pick.f 1 l p n).getD (0, 0)).1
structure Rdr (l : List Int) : Prop where
  bytes : Bytes l
  len : l.length ≤ 2000
theorem pk_f {l : List Int} (h : Rdr l) (p n : Int) (k : Nat) (hp : 0 ≤ p) (hp' : p ≤ 1000000) (h1 : 1 ≤ n) (h2 : n ≤ 1000000) (hk : 1 ≤ k) : spec_l6Rd_pick.f k l p n = some (pk l p n, p + 1) := by
  obtain ⟨v, _, _, hv⟩ := pick_some l h.bytes h.len p n hp hp' h1 h2
  unfold pk
  rw [hv 0]
  obtain ⟨k, rfl⟩ : ∃ m, k = m + 1 := ⟨k - 1, by omega⟩
  rw [hv k]
  rfl
theorem pk_bd {l : List Int} (h : Rdr l) (p n : Int) (hp : 0 ≤ p) (hp' : p ≤ 1000000) (h1 : 1 ≤ n) (h2 : n ≤ 1000000) : 0 ≤ pk l p n ∧ pk l p n < n := by
  obtain ⟨v, h3, h4, hv⟩ := pick_some l h.bytes h.len p n hp hp' h1 h2
  unfold pk
  rw [hv 0]
  exact ⟨h3, h4⟩
theorem open_f (l : List Int) (hl : Bytes l) : ∃ s, spec_l6Open.f l = some (s, 0) ∧ Rdr s := by
  unfold spec_l6Open.f
  by_cases h : (l.length : Int) > 2000
  · rw [if_pos h, if_pos (by omega)]
    exact ⟨_, rfl, ⟨fun n hn => hl n (List.mem_of_mem_take hn), by simp; omega⟩⟩
  · rw [if_neg h]
    exact ⟨_, rfl, ⟨hl, by omega⟩⟩
theorem bytes_of {l : List Int} (h : ∀ n ∈ l, (Lit.int .u8 n).wf = true) : Bytes l := fun n hn => by
  have := h n hn
  simp [Lit.wf, IntKind.min, IntKind.max, IntKind.signed, IntKind.bits] at this
  omega
theorem letter_f (a : Int) : spec_l1Letter.f a = some (Int.tmod a 7) := rfl
theorem clamp_bd (a b x : Int) (h : a ≤ b) : a ≤ mx a (mn b x) ∧ mx a (mn b x) ≤ b := by
  unfold mx mn
  constructor <;> (repeat' split) <;> omega
theorem mel_end (l : List Int) (h : Rdr l) (acc : List S30) (n : Nat) (x p : Int) (hn : n ≤ 20) (ha : acc.length = n) (hp : 0 ≤ p) (hp' : p ≤ 100000) :
    ∃ m q, m.length = n ∧ p ≤ q ∧ q ≤ p + 2 ∧ ∀ k, 2 ≤ k → spec_l91Melody.l0 k acc (n : Int) x (n : Int) l p = some (m, q) := by
  by_cases h0 : n = 0
  · refine ⟨acc, p, ha, by omega, by omega, fun k hk => ?_⟩
    obtain ⟨k, rfl⟩ : ∃ m, k = m + 1 := ⟨k - 1, by omega⟩
    simp only [spec_l91Melody.l0]
    rw [if_neg (by omega), if_neg (by omega)]
  · by_cases h1 : pk l p 50 = 0
    · obtain ⟨v0, v1⟩ := pk_bd h (p + 1) 3 (by omega) (by omega) (by omega) (by omega)
      refine ⟨acc.set (0 : Int).toNat ⟨rd ([-1, 21, 20] : List Int) (pk l (p + 1) 3), (rd_T30 acc 0).f1⟩, p + 1 + 1, by simp [ha], by omega, by omega, fun k hk => ?_⟩
      obtain ⟨k, rfl⟩ : ∃ m, k = m + 1 := ⟨k - 1, by omega⟩
      simp only [spec_l91Melody.l0]
      rw [if_neg (by omega), if_pos (by omega), pk_f h p 50 k (by omega) (by omega) (by omega) (by omega) (by omega)]
      simp only [Option.bind_some]
      rw [if_pos h1, pk_f h (p + 1) 3 k (by omega) (by omega) (by omega) (by omega) (by omega)]
      simp only [Option.bind_some]
      rw [if_pos v0, if_pos (by simpa using v1), if_pos (by omega)]
    · by_cases h2 : pk l p 50 = 1
      · have e : wrap64 ((n : Int) - 1) = ((n - 1 : Nat) : Int) := by rw [w0 (by omega) (by omega)]; omega
        refine ⟨acc.set (((n - 1 : Nat) : Int)).toNat ⟨(rd_T30 acc ((n - 1 : Nat) : Int)).f0, true⟩, p + 1, by simp [ha], by omega, by omega, fun k hk => ?_⟩
        obtain ⟨k, rfl⟩ : ∃ m, k = m + 1 := ⟨k - 1, by omega⟩
        simp only [spec_l91Melody.l0]
        rw [if_neg (by omega), if_pos (by omega), pk_f h p 50 k (by omega) (by omega) (by omega) (by omega) (by omega)]
        simp only [Option.bind_some]
        rw [if_neg h1, if_pos h2, e, if_pos (by omega), if_pos (by omega)]
      · refine ⟨acc, p + 1, ha, by omega, by omega, fun k hk => ?_⟩
        obtain ⟨k, rfl⟩ : ∃ m, k = m + 1 := ⟨k - 1, by omega⟩
        simp only [spec_l91Melody.l0]
        rw [if_neg (by omega), if_pos (by omega), pk_f h p 50 k (by omega) (by omega) (by omega) (by omega) (by omega)]
        simp only [Option.bind_some]
        rw [if_neg h1, if_neg h2]
theorem mel_l0 (l : List Int) (h : Rdr l) (n : Nat) (hn : n ≤ 20) : ∀ (d i : Nat) (acc : List S30) (x p : Int), i + d = n → acc.length = i → 0 ≤ x → x ≤ 20 → 0 ≤ p → p ≤ 10000 + 2 * i →
    ∃ m q, m.length = n ∧ p ≤ q ∧ q ≤ p + 2 * d + 2 ∧ ∀ k, d + 2 ≤ k → spec_l91Melody.l0 k acc (n : Int) x (i : Int) l p = some (m, q) := by
  intro d
  induction d with
  | zero =>
    intro i acc x p hi ha h0 h1 hp hp'
    have e : i = n := by omega
    subst e
    obtain ⟨m, q, hm, q0, q1, hq⟩ := mel_end l h acc i x p hn ha hp (by omega)
    exact ⟨m, q, hm, q0, by omega, fun k hk => hq k (by omega)⟩
  | succ d ih =>
    intro i acc x p hi ha h0 h1 hp hp'
    by_cases hx : Int.tmod x 7 = 2
    · obtain ⟨v0, v1⟩ := pk_bd h (p + 1) 5 (by omega) (by omega) (by omega) (by omega)
      obtain ⟨c0, c1⟩ := clamp_bd 1 15 (x + pk l (p + 1) 5 - 2) (by omega)
      obtain ⟨m, q, hm, q0, q1, hq⟩ := ih (i + 1) (acc ++ [⟨x, pk l p 3 == 0⟩]) (mx 1 (mn 15 (x + pk l (p + 1) 5 - 2))) (p + 1 + 1) (by omega) (by simp [ha]) (by omega) (by omega) (by omega) (by omega)
      refine ⟨m, q, hm, by omega, by omega, fun k hk => ?_⟩
      obtain ⟨k, rfl⟩ : ∃ m, k = m + 1 := ⟨k - 1, by omega⟩
      simp only [spec_l91Melody.l0]
      rw [if_pos (by omega), letter_f]
      simp only [Option.bind_some]
      rw [if_pos hx, pk_f h p 3 k (by omega) (by omega) (by omega) (by omega) (by omega)]
      simp only [Option.bind_some]
      rw [if_pos (by omega), pk_f h (p + 1) 5 k (by omega) (by omega) (by omega) (by omega) (by omega)]
      simp only [Option.bind_some]
      rw [w1 (by omega), w0 (i := x + pk l (p + 1) 5) (by omega) (by omega), w0 (i := x + pk l (p + 1) 5 - 2) (by omega) (by omega)]
      exact hq k (by omega)
    · obtain ⟨v0, v1⟩ := pk_bd h p 5 (by omega) (by omega) (by omega) (by omega)
      obtain ⟨c0, c1⟩ := clamp_bd 1 15 (x + pk l p 5 - 2) (by omega)
      obtain ⟨m, q, hm, q0, q1, hq⟩ := ih (i + 1) (acc ++ [⟨x, false⟩]) (mx 1 (mn 15 (x + pk l p 5 - 2))) (p + 1) (by omega) (by simp [ha]) (by omega) (by omega) (by omega) (by omega)
      refine ⟨m, q, hm, by omega, by omega, fun k hk => ?_⟩
      obtain ⟨k, rfl⟩ : ∃ m, k = m + 1 := ⟨k - 1, by omega⟩
      simp only [spec_l91Melody.l0]
      rw [if_pos (by omega), letter_f]
      simp only [Option.bind_some]
      rw [if_neg hx, if_pos (by omega), pk_f h p 5 k (by omega) (by omega) (by omega) (by omega) (by omega)]
      simp only [Option.bind_some]
      rw [w1 (by omega), w0 (i := x + pk l p 5) (by omega) (by omega), w0 (i := x + pk l p 5 - 2) (by omega) (by omega)]
      exact hq k (by omega)
theorem mel_d (l : List Int) (h : Rdr l) (p : Int) (a : Nat) (ha : a ≤ 20) (hp : 0 ≤ p) (hp' : p ≤ 5000) : ∃ m q, m.length ≤ a ∧ p ≤ q ∧ q ≤ p + 100 ∧ ∀ k, 40 ≤ k → spec_l91Melody.f k l p (a : Int) = some (m, q) := by
  obtain ⟨v0, v1⟩ := pk_bd h p ((a : Int) + 1) (by omega) (by omega) (by omega) (by omega)
  obtain ⟨u0, u1⟩ := pk_bd h (p + 1) 5 (by omega) (by omega) (by omega) (by omega)
  obtain ⟨n, hn⟩ := Int.eq_ofNat_of_zero_le v0
  obtain ⟨m, q, hm, q0, q1, hq⟩ := mel_l0 l h n (by omega) n 0 [] (4 + pk l (p + 1) 5) (p + 1 + 1) (by omega) rfl (by omega) (by omega) (by omega) (by omega)
  refine ⟨m, q, by omega, by omega, by omega, fun k hk => ?_⟩
  unfold spec_l91Melody.f
  rw [w0 (i := (a : Int) + 1) (by omega) (by omega), pk_f h p ((a : Int) + 1) k (by omega) (by omega) (by omega) (by omega) (by omega)]
  simp only [Option.bind_some]
  rw [pk_f h (p + 1) 5 k (by omega) (by omega) (by omega) (by omega) (by omega)]
  simp only [Option.bind_some]
  rw [w0 (i := 4 + pk l (p + 1) 5) (by omega) (by omega), hn]
  exact hq k (by omega)
def allS (s : Nat) (m : List S30) : Bool := m.all (fun t => decide (0 ≤ sylF (s : Int) t.f0 t.f1))
theorem sf1 (m : List S30) (B : List Int) (o : Bool) (s : Nat) (hs : s ≤ 20) (hm : m.length ≤ 24) (K0 : Nat) (R : Option Bool) :
    ∀ (d i k : Nat) (a : Bool), i + d = m.length → K0 + d + 1 ≤ k → (∀ k, K0 ≤ k → laws_FnSingFew.l0 k m B (o || (a && allS s (m.drop i))) ((s + 1 : Nat) : Int) = R) → laws_FnSingFew.l1 k m B o (s : Int) a (i : Int) = R := by
  intro d
  induction d with
  | zero =>
    intro i k a hi hk hc
    obtain ⟨k, rfl⟩ : ∃ m, k = m + 1 := ⟨k - 1, by omega⟩
    simp only [laws_FnSingFew.l1]
    rw [if_neg (by omega), w1 (by omega)]
    have := hc k (by omega)
    rw [List.drop_eq_nil_of_le (by omega), show allS s [] = true from rfl, Bool.and_true] at this
    cases o
    · rw [if_neg (by decide)]; exact this
    · rw [if_pos rfl]; exact this
  | succ d ih =>
    intro i k a hi hk hc
    obtain ⟨k, rfl⟩ : ∃ m, k = m + 1 := ⟨k - 1, by omega⟩
    have hlt : i < m.length := by omega
    simp only [laws_FnSingFew.l1]
    rw [if_pos (by omega), w1 (by omega)]
    cases a with
    | false =>
      rw [if_neg (by decide)]
      refine ih (i + 1) k false (by omega) (by omega) ?_
      intro k hk
      have := hc k hk
      rw [Bool.false_and] at this ⊢
      exact this
    | true =>
      rw [if_pos rfl, if_pos (by omega), rdt_at m i hlt, syli_f, Option.bind_some]
      refine ih (i + 1) k _ (by omega) (by omega) ?_
      intro k hk
      have := hc k hk
      rw [Bool.true_and, List.drop_eq_getElem_cons hlt] at this
      exact this
def oneS (m : List S30) : Bool → Nat → Nat → Bool
  | o, _, 0 => o
  | o, s, d + 1 => oneS m (o || (decide ((m.length : Int) > 0) && allS s m)) (s + 1) d
theorem oneS_iff (m : List S30) : ∀ (d s : Nat) (o : Bool), oneS m o s d = true ↔ o = true ∨ (0 < m.length ∧ ∃ j, s ≤ j ∧ j < s + d ∧ ∀ t ∈ m, 0 ≤ sylF (j : Int) t.f0 t.f1)
  | 0, s, o => by
    constructor
    · intro h; exact .inl h
    · rintro (h | ⟨_, j, h1, h2, _⟩)
      · exact h
      · omega
  | d + 1, s, o => by
    unfold oneS
    rw [oneS_iff m d (s + 1), Bool.or_eq_true, Bool.and_eq_true, decide_eq_true_eq]
    unfold allS
    rw [List.all_eq_true]
    simp only [decide_eq_true_eq]
    constructor
    · rintro ((h | ⟨h1, h2⟩) | ⟨h1, j, h2, h3, h4⟩)
      · exact .inl h
      · exact .inr ⟨by omega, s, Nat.le_refl _, by omega, h2⟩
      · exact .inr ⟨h1, j, by omega, by omega, h4⟩
    · rintro (h | ⟨h1, j, h2, h3, h4⟩)
      · exact .inl (.inl h)
      · by_cases e : j = s
        · subst e
          exact .inl (.inr ⟨by omega, h4⟩)
        · exact .inr ⟨h1, j, by omega, by omega, h4⟩
theorem sf0 (m : List S30) (B : List Int) (hm : m.length ≤ 24) (K0 : Nat) (R : Option Bool) :
    ∀ (d s k : Nat) (o : Bool), s + d = 21 → K0 + 26 * d + 1 ≤ k → (∀ k, K0 ≤ k → laws_FnSingFew.l2 k m B (oneS m o s d) 0 0 = R) → laws_FnSingFew.l0 k m B o (s : Int) = R := by
  intro d
  induction d with
  | zero =>
    intro s k o hs hk hc
    obtain ⟨k, rfl⟩ : ∃ m, k = m + 1 := ⟨k - 1, by omega⟩
    simp only [laws_FnSingFew.l0]
    rw [if_neg (by omega)]
    exact hc k (by omega)
  | succ d ih =>
    intro s k o hs hk hc
    obtain ⟨k, rfl⟩ : ∃ m, k = m + 1 := ⟨k - 1, by omega⟩
    simp only [laws_FnSingFew.l0]
    rw [if_pos (by omega)]
    refine sf1 m B o s (by omega) hm (K0 + 26 * d + 1) R m.length 0 k _ (by omega) (by omega) ?_
    intro k hk
    rw [List.drop_zero]
    exact ih (s + 1) k _ (by omega) hk hc
theorem sf3 (m : List S30) (B : List Int) (o : Bool) (c : Int) (i : Nat) (hi : i < B.length) (hB : B.length ≤ 24) (K0 : Nat) (R : Option Bool) :
    ∀ (d j k : Nat) (a : Bool), j + d = i → K0 + d + 1 ≤ k → (∀ k, K0 ≤ k → laws_FnSingFew.l2 k m B o (if (a && decide (¬ B[i] ∈ (B.take i).drop j)) = true then wrap64 (c + 1) else c) ((i + 1 : Nat) : Int) = R) → laws_FnSingFew.l3 k m B o c (i : Int) a (j : Int) = R := by
  intro d
  induction d with
  | zero =>
    intro j k a hj hk hc
    obtain ⟨k, rfl⟩ : ∃ m, k = m + 1 := ⟨k - 1, by omega⟩
    simp only [laws_FnSingFew.l3]
    rw [if_neg (by omega), w1 (by omega)]
    have := hc k (by omega)
    rw [List.drop_eq_nil_of_le (by simp; omega), decide_eq_true (by simp), Bool.and_true] at this
    cases a
    · rw [if_neg (by decide)] at this ⊢; exact this
    · rw [if_pos rfl] at this ⊢; exact this
  | succ d ih =>
    intro j k a hj hk hc
    obtain ⟨k, rfl⟩ : ∃ m, k = m + 1 := ⟨k - 1, by omega⟩
    have hjl : j < B.length := by omega
    simp only [laws_FnSingFew.l3]
    rw [if_pos (by omega), w1 (by omega)]
    cases a with
    | false =>
      rw [if_neg (by decide)]
      refine ih (j + 1) k false (by omega) (by omega) ?_
      intro k hk
      have := hc k hk
      rw [Bool.false_and] at this ⊢
      exact this
    | true =>
      rw [if_pos rfl, if_pos (by omega), if_pos (by omega), if_pos (by omega), if_pos (by omega), rd_at B j hjl, rd_at B i hi]
      refine ih (j + 1) k _ (by omega) (by omega) ?_
      intro k hk
      have := hc k hk
      have hjt : j < (B.take i).length := by simp; omega
      rw [Bool.true_and, List.drop_eq_getElem_cons hjt, List.getElem_take] at this
      by_cases e : B[j] = B[i]
      · rw [e, bne_self_eq_false, Bool.false_and, if_neg (by decide)]
        rw [decide_eq_false (by simp [e]), if_neg (by decide)] at this
        exact this
      · rw [bne_iff_ne.2 e, Bool.true_and]
        have e2 : (B[i] ∈ B[j] :: (B.take i).drop (j + 1)) ↔ B[i] ∈ (B.take i).drop (j + 1) := by
          rw [List.mem_cons]
          constructor
          · rintro (h | h)
            · exact absurd h.symm e
            · exact h
          · exact .inr
        by_cases h : B[i] ∈ (B.take i).drop (j + 1)
        · rw [decide_eq_false (Classical.not_not.2 h), if_neg (by decide)]
          rw [decide_eq_false (Classical.not_not.2 (e2.2 h)), if_neg (by decide)] at this
          exact this
        · rw [decide_eq_true h, if_pos rfl]
          rw [decide_eq_true (show ¬ B[i] ∈ B[j] :: (B.take i).drop (j + 1) from fun x => h (e2.1 x)), if_pos rfl] at this
          exact this
theorem news_bd (ys : List Int) : ∀ i, 0 ≤ news ys i ∧ news ys i ≤ i
  | 0 => ⟨Int.le_refl _, Int.le_refl _⟩
  | i + 1 => by
    have := news_bd ys i
    unfold news
    split <;> omega
theorem sf2 (m : List S30) (B : List Int) (o : Bool) (hB : B.length ≤ 24) (hv : ∀ k, 60 ≤ k → impl_SingMutations.f k m B = some (mutL B)) (ho : ((mutL B == 0) == o) = true) :
    ∀ (d i k : Nat), i + d = B.length → 60 + 26 * d + 1 ≤ k → laws_FnSingFew.l2 k m B o (news B i) (i : Int) = some true := by
  intro d
  induction d with
  | zero =>
    intro i k hi hk
    obtain ⟨k, rfl⟩ : ∃ m, k = m + 1 := ⟨k - 1, by omega⟩
    have hb := news_bd B i
    simp only [laws_FnSingFew.l2]
    rw [if_neg (by omega), hv k (by omega), Option.bind_some, if_pos ho, w0 (by omega) (by omega), decide_eq_true]
    cases i with
    | zero =>
      have := mut_nonneg B
      show mutL B ≥ 0 - 1
      omega
    | succ i =>
      have := news_le B i (by omega)
      rw [List.take_of_length_le (by omega)] at this
      omega
  | succ d ih =>
    intro i k hi hk
    obtain ⟨k, rfl⟩ : ∃ m, k = m + 1 := ⟨k - 1, by omega⟩
    have hlt : i < B.length := by omega
    have hb := news_bd B i
    simp only [laws_FnSingFew.l2]
    rw [if_pos (by omega)]
    refine sf3 m B o (news B i) i hlt hB (60 + 26 * d + 1) _ i 0 k true (by omega) (by omega) ?_
    intro k hk
    have := ih (i + 1) k (by omega) hk
    unfold news at this
    rw [getD_at B i hlt] at this
    rw [Bool.true_and, List.drop_zero]
    by_cases h : B[i] ∈ B.take i
    · rw [if_pos h, Int.add_zero] at this
      rw [decide_eq_false (Classical.not_not.2 h), if_neg (by decide)]
      exact this
    · rw [if_neg h] at this
      rw [decide_eq_true h, if_pos rfl, w0 (by omega) (by omega)]
      exact this
theorem FnSingFew : ∀ (l0 : List Int), l0.length ≤ maxLen → l0.length * 1 ≤ 140737488351232 → (∀ n ∈ l0, (Lit.int .u8 n).wf = true) → ∃ k, laws_FnSingFew.f k l0 = some true := by
  intro l0 z1 z2 hw
  refine ⟨20000, ?_⟩
  unfold laws_FnSingFew.f
  by_cases h : (l0.length : Int) > 1048576
  · rw [if_pos h]
  · rw [if_neg h]
    obtain ⟨o, ho, hR⟩ := open_f l0 (bytes_of hw)
    obtain ⟨m, q, hm, q0, q1, hq⟩ := mel_d o hR 0 10 (by omega) (by omega) (by omega)
    have hd : spec_DrawSingBest.f 20000 l0 = some m := by
      unfold spec_DrawSingBest.f
      rw [ho]
      simp only [Option.bind_some]
      have := hq 20000 (by omega)
      rw [show ((10 : Nat) : Int) = 10 from rfl] at this
      rw [this]
      rfl
    rw [hd, Option.bind_some, besti_f m 20000 (by omega), Option.bind_some, bests_f m (by omega) 20000 (by omega), Option.bind_some, bne_self_eq_false, if_neg (by decide)]
    have hBl : (BST m).1.length ≤ 24 := by
      unfold BST
      by_cases hs : SB m = true
      · rw [if_pos hs]
        show (best none (rowsOf m)).length ≤ 24
        rw [best_len, rows_len]
        omega
      · rw [if_neg hs]
        simp
    rw [sameI_f _ 20000 (by omega) (by omega), Option.bind_some, if_pos rfl]
    by_cases hs : SB m = true
    · obtain ⟨hM, fu⟩ := (SB_iff m).1 hs
      have e : BST m = (best none (rowsOf m), true) := by unfold BST; rw [if_pos hs]
      rw [e] at hBl ⊢
      have hfit := best_fits (rowsOf m) none fu (rows_asc m)
      simp only [laws_FnSingFew.j0]
      rw [if_neg (by decide)]
      refine sf0 m _ (MV_len hM) (60 + 26 * 24 + 1) _ 21 0 19999 _ (by omega) (by omega) ?_
      intro k hk
      have hz : best none (rowsOf m) = best none (rowsOf m) := rfl
      refine sf2 m (best none (rowsOf m)) _ hBl (fun k hk => mutv m _ k hk hM hfit) ?_ (best none (rowsOf m)).length 0 k (by omega) (by have : (best none (rowsOf m)).length ≤ 24 := hBl; omega)
      have key : mutL (best none (rowsOf m)) = 0 ↔ oneS m ((m.length : Int) == 0) 0 21 = true := by
        rw [best_zero fu (rows_asc m), oneS_iff, beq_iff_eq]
        constructor
        · rintro (h | ⟨x, hx⟩)
          · have := rows_len m
            rw [h] at this
            exact .inl (by simp at this; omega)
          · by_cases hl : m.length = 0
            · exact .inl (by omega)
            · refine .inr ⟨by omega, ?_⟩
              have hx' : ∀ t ∈ m, x ∈ hexOf t.f0 t.f1 7 := fun t ht => hx _ (List.mem_map.2 ⟨t, ht, rfl⟩)
              have h0 := hexOf_mem _ _ _ (hx' _ (List.getElem_mem (show 0 < m.length by omega)))
              refine ⟨x.toNat, by omega, by omega, fun t ht => ?_⟩
              rw [Int.toNat_of_nonneg h0.1]
              exact (mem_hex _ _ _).1 (hx' t ht)
        · rintro (h | ⟨h0, j, _, hj, hx⟩)
          · refine .inl ?_
            have : m = [] := List.eq_nil_of_length_eq_zero (by omega)
            rw [this]
            rfl
          · refine .inr ⟨(j : Int), fun h hh => ?_⟩
            obtain ⟨t, ht, rfl⟩ := List.mem_map.1 hh
            exact (mem_hex _ _ _).2 (hx t ht)
      by_cases hz : mutL (best none (rowsOf m)) = 0
      · rw [key.1 hz, hz]; rfl
      · have h1 : ¬ oneS m ((m.length : Int) == 0) 0 21 = true := fun x => hz (key.2 x)
        rw [Bool.not_eq_true] at h1
        rw [h1, beq_false_of_ne hz]
        rfl
    · have e : BST m = ([], false) := by unfold BST; rw [if_neg hs]
      rw [e]
      simp only [laws_FnSingFew.j0]
      rw [if_pos (by decide), if_pos (by decide), sameI_f _ 19999 (by simp) (by simp), Option.bind_some]

end Go.Proofs.YtcndojoghmblaaaDoor.PureFnSingFew
