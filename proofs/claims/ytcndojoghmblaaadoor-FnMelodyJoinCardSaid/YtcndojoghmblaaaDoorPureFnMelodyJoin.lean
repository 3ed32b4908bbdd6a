/- FnMelodyJoin: for every list of at most 1048576 bytes, the law of MelodyJoin holds of what the reference draws from it, and the list reads as before (longer lists the statement lets pass). The table letterNames is tied to the program's text. No condition beyond the statement's own. -/
import Derived.Test.YtcndojoghmblaaaDoorMJx0
import Derived.Test.YtcndojoghmblaaaDoorMJx7
import Derived.Test.YtcndojoghmblaaaDoorMJx4
import Derived.Test.YtcndojoghmblaaaDoorMJx3
import Derived.Test.YtcndojoghmblaaaDoorMJx6
import Derived.Test.YtcndojoghmblaaaDoorMJx5
import Derived.Test.YtcndojoghmblaaaDoorMJx8
import Derived.Test.YtcndojoghmblaaaDoorMJx2
import Derived.Laws.Bits64
namespace Go.Proofs.YtcndojoghmblaaaDoor.PureFnMelodyJoin
open Go.RowKit Go.Proofs.YtcndojoghmblaaaDoor.MJ Go.Proofs.YtcndojoghmblaaaDoorW.PrintWords Go.Proofs.YtcndojoghmblaaaDoorW.PrintLast Go.Proofs.YtcndojoghmblaaaDoorW.PrintMore 
set_option linter.unusedVariables false
set_option linter.unusedSimpArgs false
theorem w1 {i : Nat} (h : i < 4611686018427387904) : wrap64 ((i : Int) + 1) = ((i + 1 : Nat) : Int) := by
  unfold wrap64
  omega
theorem w0 {i : Int} (h : -9223372036854775808 ≤ i) (h' : i ≤ 9223372036854775807) : wrap64 i = i := by
  unfold wrap64
  omega
theorem rd_at (xs : List Int) (i : Nat) (h : i < xs.length) : rd xs (i : Int) = xs[i] := by
  simp [rd, List.getD_eq_getElem?_getD, h]
/-- A tone of the gamut. -/
def tv (a : Int) (b : Bool) : Bool := decide (0 ≤ a) && (decide (a ≤ 20) && (!b || decide (Int.tmod a 7 = 2)))
theorem tv_spec (a : Int) (b : Bool) : spec_ToneValid.f a b = some (tv a b) := by
  unfold spec_ToneValid.f spec_l6In.f spec_l1Letter.f tv
  by_cases h0 : a ≥ 0
  · rw [if_pos h0, decide_eq_true (show 0 ≤ a from h0)]
    by_cases h1 : a ≤ 20
    · simp only [h1, decide_true, Option.bind_some, if_true, Bool.true_and]
      cases b
      · rfl
      · simp
        rfl
    · simp [h1]
  · rw [if_neg h0, decide_eq_false (show ¬ 0 ≤ a from h0)]
    rfl
theorem tv_impl (a : Int) (b : Bool) : impl_Tone_valid.f a b = some (tv a b) := by
  unfold impl_Tone_valid.f tv
  by_cases h0 : a ≥ 0
  · rw [if_pos h0, decide_eq_true (show 0 ≤ a from h0)]
    by_cases h1 : a ≤ 20
    · rw [if_pos h1, decide_eq_true h1]
      cases b
      · rfl
      · simp
        rfl
    · rw [if_neg h1, decide_eq_false h1]
      rfl
  · rw [if_neg h0, decide_eq_false (show ¬ 0 ≤ a from h0)]
    rfl
theorem in_spec (a b c : Int) : spec_l6In.f a b c = some (decide (b ≤ a) && decide (a ≤ c)) := by
  unfold spec_l6In.f
  by_cases h0 : a ≥ b
  · rw [if_pos h0, decide_eq_true (show b ≤ a from h0)]; rfl
  · rw [if_neg h0, decide_eq_false (show ¬ b ≤ a from h0)]; rfl
theorem wrap64_in (x : Int) (h1 : -9223372036854775808 ≤ x) (h2 : x < 9223372036854775808) : wrap64 x = x := IntWalk.wrap64_in x (by omega)
theorem hex_out {x : Int} (h : ¬ (0 ≤ x ∧ x ≤ 14)) : isHex x = false := by
  rcases hex_cases x with ⟨_, k, hk, e⟩ | ⟨e, _⟩
  · exfalso
    have : k = 0 ∨ k = 1 ∨ k = 2 ∨ k = 3 ∨ k = 4 ∨ k = 5 ∨ k = 6 := by omega
    rcases this with rfl | rfl | rfl | rfl | rfl | rfl | rfl <;> simp [hexAll] at e <;> omega
  · exact e
theorem valid_f (a : Int) (b : Bool) : ∃ v, impl_Tone_valid.f a b = some v ∧ (¬ (0 ≤ a ∧ a ≤ 20) → v = false) := by
  unfold impl_Tone_valid.f
  by_cases h0 : a ≥ 0
  · by_cases h1 : a ≤ 20
    · rw [if_pos h0, if_pos h1]
      cases b
      · exact ⟨_, rfl, fun h => absurd ⟨h0, h1⟩ h⟩
      · exact ⟨_, rfl, fun h => absurd ⟨h0, h1⟩ h⟩
    · rw [if_pos h0, if_neg h1]
      exact ⟨_, rfl, fun _ => rfl⟩
  · rw [if_neg h0]
    exact ⟨_, rfl, fun _ => rfl⟩
theorem sylimpl_no (a0 a1 : Int) (b1 : Bool) (h : ¬ (0 ≤ a0 ∧ a0 ≤ 14 ∧ 0 ≤ a1 ∧ a1 ≤ 20)) : impl_HexSyllable.f a0 a1 b1 = some (-1) := by
  obtain ⟨v, hv, hn⟩ := valid_f a1 b1
  unfold impl_HexSyllable.f
  rw [hv, Option.bind_some]
  by_cases h0 : 0 ≤ a0 ∧ a0 ≤ 14
  · rw [hn (by omega)]
    cases isHex a0 <;> rfl
  · rw [hex_out h0]
    rfl
def tvv (t : S30) : Bool := tv t.f0 t.f1
theorem rdt_at (xs : List S30) (i : Nat) (h : i < xs.length) : rd_T30 xs (i : Int) = xs[i] := by
  simp [rd_T30, List.getD_eq_getElem?_getD, h]
def MV (l : List S30) : Bool := decide (l.length ≤ 24) && l.all tvv
theorem mvs_l0 (l : List S30) (hb : l.length < 4611686018427387904) : ∀ (d i k : Nat), i + d = l.length → d < k → (l.take i).all tvv = true → spec_MelodyValid.l0 k l (i : Int) = some (MV l) := by
  intro d
  induction d with
  | zero =>
    intro i k hi hk hv
    obtain ⟨k, rfl⟩ : ∃ m, k = m + 1 := ⟨k - 1, by omega⟩
    rw [List.take_of_length_le (by omega)] at hv
    simp only [spec_MelodyValid.l0]
    rw [if_neg (by omega)]
    unfold MV
    rw [hv, Bool.and_true]
    congr 1
    rw [decide_eq_decide]
    omega
  | succ d ih =>
    intro i k hi hk hv
    obtain ⟨k, rfl⟩ : ∃ m, k = m + 1 := ⟨k - 1, by omega⟩
    have hx : i < l.length := by omega
    simp only [spec_MelodyValid.l0]
    rw [if_pos (by omega), if_pos (by omega), rdt_at l i hx, tv_spec]
    simp only [Option.bind_some]
    by_cases hvi : tv l[i].f0 l[i].f1 = true
    · rw [if_pos hvi, w1 (by omega)]
      refine ih (i + 1) k (by omega) (by omega) ?_
      rw [List.take_succ_eq_append_getElem hx, List.all_append, hv]
      simp [tvv, hvi]
    · rw [if_neg hvi]
      have : l.all tvv = false := by
        rw [Bool.eq_false_iff]
        intro h
        exact hvi (List.all_eq_true.1 h _ (List.getElem_mem hx))
      unfold MV
      rw [this, Bool.and_false]
theorem mvs_f (l : List S30) (hb : l.length ≤ 1048576) (k : Nat) (hk : l.length < k) : spec_MelodyValid.f k l = some (MV l) := by
  unfold spec_MelodyValid.f
  simpa using mvs_l0 l (by omega) l.length 0 k (by omega) (by omega) (by simp)
theorem mvi_l0 (l : List S30) (hb : l.length < 4611686018427387904) : ∀ (d i k : Nat), i + d = l.length → d < k → impl_MelodyValid.l0 k l (l.length : Int) (i : Int) = some ((l.drop i).all tvv) := by
  intro d
  induction d with
  | zero =>
    intro i k hi hk
    obtain ⟨k, rfl⟩ : ∃ m, k = m + 1 := ⟨k - 1, by omega⟩
    simp only [impl_MelodyValid.l0]
    rw [if_neg (by omega), List.drop_eq_nil_of_le (by omega)]
    rfl
  | succ d ih =>
    intro i k hi hk
    obtain ⟨k, rfl⟩ : ∃ m, k = m + 1 := ⟨k - 1, by omega⟩
    have hx : i < l.length := by omega
    simp only [impl_MelodyValid.l0]
    rw [if_pos (by omega), if_pos (by omega), if_pos (by omega), rdt_at l i hx, tv_impl, List.drop_eq_getElem_cons hx, List.all_cons]
    simp only [Option.bind_some]
    by_cases ht : tv l[i].f0 l[i].f1 = true
    · rw [if_pos ht, w1 (by omega), ih (i + 1) k (by omega) (by omega), show tvv l[i] = true from ht, Bool.true_and]
    · rw [if_neg ht, show tvv l[i] = false from Bool.eq_false_iff.mpr ht, Bool.false_and]
theorem mvi_f (l : List S30) (k : Nat) (hk : 25 ≤ k) : impl_MelodyValid.f k l = some (MV l) := by
  unfold impl_MelodyValid.f MV
  by_cases h : l.length ≤ 24
  · rw [if_neg (by omega), decide_eq_true h, Bool.true_and]
    simpa using mvi_l0 l (by omega) l.length 0 k (by omega) (by omega)
  · rw [if_pos (by omega), decide_eq_false h, Bool.false_and]

def sylF (a0 a1 : Int) (b1 : Bool) : Int := (impl_HexSyllable.f a0 a1 b1).getD 0
theorem syli_f (a0 a1 : Int) (b1 : Bool) : impl_HexSyllable.f a0 a1 b1 = some (sylF a0 a1 b1) := by
  obtain ⟨v, hv, _⟩ := valid_f a1 b1
  unfold sylF
  unfold impl_HexSyllable.f
  rw [hv, Option.bind_some]
  rfl
/-- The steps fit the tones. -/
def SG : List S30 → List Int → Bool
  | t :: l, x :: s => if sylF x t.f0 t.f1 < 0 then false else SG l s
  | _, _ => true
theorem soi_l0 (l : List S30) (s : List Int) (hs : s.length = l.length) (hb : l.length < 4611686018427387904) : ∀ (d i k : Nat), i + d = l.length → d < k → impl_SingOk.l0 k s l (l.length : Int) (i : Int) = some (SG (l.drop i) (s.drop i)) := by
  intro d
  induction d with
  | zero =>
    intro i k hi hk
    obtain ⟨k, rfl⟩ : ∃ m, k = m + 1 := ⟨k - 1, by omega⟩
    simp only [impl_SingOk.l0]
    rw [if_neg (by omega), List.drop_eq_nil_of_le (by omega)]
    simp [SG]
  | succ d ih =>
    intro i k hi hk
    obtain ⟨k, rfl⟩ : ∃ m, k = m + 1 := ⟨k - 1, by omega⟩
    have hx : i < l.length := by omega
    have hy : i < s.length := by omega
    simp only [impl_SingOk.l0]
    rw [if_pos (by omega), if_pos (by omega), if_pos (by omega), if_pos (by omega), rdt_at l i hx, rd_at s i hy, syli_f, Option.bind_some, List.drop_eq_getElem_cons hx, List.drop_eq_getElem_cons hy]
    unfold SG
    by_cases h : sylF s[i] l[i].f0 l[i].f1 < 0
    · rw [if_pos h, if_pos h]
    · rw [if_neg h, if_neg h, w1 (by omega)]
      exact ih (i + 1) k (by omega) (by omega)
def SO (l : List S30) (s : List Int) : Bool := MV l && (decide (s.length = l.length) && SG l s)
theorem soi_f (l : List S30) (s : List Int) (k : Nat) (hk : 27 ≤ k) : impl_SingOk.f k l s = some (SO l s) := by
  unfold impl_SingOk.f SO
  rw [mvi_f l k (by omega), Option.bind_some]
  obtain ⟨k, rfl⟩ : ∃ m, k = m + 1 := ⟨k - 1, by omega⟩
  cases hM : MV l with
  | false => rfl
  | true =>
    have hl : l.length ≤ 24 := by
      unfold MV at hM
      rw [Bool.and_eq_true] at hM
      exact of_decide_eq_true hM.1
    rw [if_pos rfl, Bool.true_and]
    rw [impl_SingOk.j0]
    by_cases h : s.length = l.length
    · rw [if_neg (by simp; omega), decide_eq_true h, Bool.true_and]
      simpa using soi_l0 l s h (by omega) l.length 0 k (by omega) (by omega)
    · rw [if_pos (by simp; omega), decide_eq_false h, Bool.false_and]
theorem SO_len {l : List S30} {s : List Int} (h : SO l s = true) : l.length ≤ 24 ∧ s.length = l.length := by
  unfold SO MV at h
  simp only [Bool.and_eq_true, decide_eq_true_eq] at h
  exact ⟨h.1.1, h.2.1⟩
theorem getD_at {α : Type} (l : List α) (i : Nat) (h : i < l.length) (d : α) : l.getD i d = l[i] := by
  rw [List.getD_eq_getElem?_getD, List.getElem?_eq_getElem h, Option.getD_some]
theorem syl_out (s : Nat) (hs : s ≤ 14) (a : Int) (b : Bool) (h : ¬ (0 ≤ a ∧ a ≤ 20)) : sylOf s a b = -1 := by
  unfold sylOf
  have e : ∀ i : Nat, i < 6 → ((s : Int) + (i : Int) == a && (softAt s i == b)) = false := by
    intro i hi
    have : ((s : Int) + (i : Int) == a) = false := by
      rw [beq_eq_false_iff_ne]
      omega
    rw [this, Bool.false_and]
  rw [sylGo_step, e 0 (by omega), if_neg (by decide), sylGo_step, e 1 (by omega), if_neg (by decide), sylGo_step, e 2 (by omega), if_neg (by decide), sylGo_step, e 3 (by omega), if_neg (by decide), sylGo_step, e 4 (by omega), if_neg (by decide), sylGo_step, e 5 (by omega), if_neg (by decide)]
  rfl
theorem hexAll_le : ∀ s ∈ hexAll.take 7, s ≤ 14 := by decide
theorem hexOf_out (a : Int) (b : Bool) (h : ¬ (0 ≤ a ∧ a ≤ 20)) : hexOf a b 7 = [] := by
  unfold hexOf
  rw [List.map_eq_nil_iff, List.filter_eq_nil_iff]
  intro s hs
  rw [syl_out s (hexAll_le s hs) a b h]
  decide
theorem hexOf_mem (a : Int) (b : Bool) (x : Int) (h : x ∈ hexOf a b 7) : 0 ≤ x ∧ x ≤ 14 := by
  unfold hexOf at h
  obtain ⟨s, hs, rfl⟩ := List.mem_map.1 h
  have := hexAll_le s (List.mem_filter.1 hs).1
  omega
/-- a hexachord is in a tone's row iff the tone has a syllable there -/
theorem mem_hex (a : Int) (b : Bool) (x : Int) : x ∈ hexOf a b 7 ↔ 0 ≤ sylF x a b := by
  by_cases h : 0 ≤ x ∧ x ≤ 14 ∧ 0 ≤ a ∧ a ≤ 20
  · obtain ⟨n, rfl⟩ := Int.eq_ofNat_of_zero_le h.1
    obtain ⟨m, rfl⟩ := Int.eq_ofNat_of_zero_le h.2.2.1
    have key : ∀ b : Bool, ∀ n : Nat, n < 15 → ∀ m : Nat, m < 21 → (decide ((n : Int) ∈ hexOf (m : Int) b 7) == decide (0 ≤ (impl_HexSyllable.f (n : Int) (m : Int) b).getD 0)) = true := by decide +kernel
    have k := beq_iff_eq.mp (key b n (by omega) m (by omega))
    unfold sylF
    constructor
    · intro hx
      rw [decide_eq_true hx] at k
      exact of_decide_eq_true k.symm
    · intro hx
      rw [decide_eq_true hx] at k
      exact of_decide_eq_true k
  · constructor
    · intro hx
      have h1 := hexOf_mem a b x hx
      by_cases ha : 0 ≤ a ∧ a ≤ 20
      · omega
      · rw [hexOf_out a b ha] at hx
        exact absurd hx (List.not_mem_nil)
    · intro hx
      unfold sylF at hx
      rw [sylimpl_no x a b (by omega)] at hx
      exact absurd hx (by decide)
theorem hexOf_len3 (a : Int) (b : Bool) : (hexOf a b 7).length ≤ 3 := by
  by_cases h : 0 ≤ a ∧ a ≤ 20
  · obtain ⟨m, rfl⟩ := Int.eq_ofNat_of_zero_le h.1
    have key : ∀ b : Bool, ∀ m : Nat, m < 21 → (hexOf (m : Int) b 7).length ≤ 3 := by decide +kernel
    exact key b m (by omega)
  · rw [hexOf_out a b h]
    simp
/-- the number of lists -/
def prodL : List (List Int) → Int
  | [] => 1
  | h :: hs => (h.length : Int) * prodL hs
theorem prodL_nonneg : ∀ hs, 0 ≤ prodL hs
  | [] => by decide
  | h :: hs => Int.mul_nonneg (by omega) (prodL_nonneg hs)
theorem prodL_pos : ∀ hs : List (List Int), 0 < prodL hs ↔ Full hs
  | [] => ⟨fun _ => fun x hx => absurd hx (List.not_mem_nil), fun _ => by decide⟩
  | h :: hs => by
    have ih := prodL_pos hs
    have hn := prodL_nonneg hs
    constructor
    · intro hp
      have h1 : h ≠ [] := by
        rintro rfl
        simp [prodL] at hp
      have h2 : 0 < prodL hs := by
        rcases Int.lt_or_eq_of_le hn with h3 | h3
        · exact h3
        · unfold prodL at hp
          rw [← h3] at hp
          simp at hp
      intro x hx
      rcases List.mem_cons.1 hx with rfl | hx
      · exact h1
      · exact ih.1 h2 x hx
    · intro f
      unfold prodL
      refine Int.mul_pos ?_ (ih.2 f.tail)
      have := List.length_pos_iff.2 (f h (List.mem_cons_self ..))
      omega
theorem prodL_append : ∀ a b : List (List Int), prodL (a ++ b) = prodL a * prodL b
  | [], b => by simp [prodL]
  | h :: a, b => by simp only [List.cons_append, prodL]; rw [prodL_append a b, Int.mul_assoc]
theorem prodL_le : ∀ (l : List S30), prodL (rowsOf l) ≤ (3 : Int) ^ l.length
  | [] => by decide
  | t :: l => by
    have ih := prodL_le l
    have h3 : ((rowOf t).length : Int) ≤ 3 := by have := hexOf_len3 t.f0 t.f1; unfold rowOf; omega
    show ((rowOf t).length : Int) * prodL (rowsOf l) ≤ _
    rw [List.length_cons, Int.pow_succ, Int.mul_comm]
    exact Int.mul_le_mul ih h3 (by omega) (Int.pow_nonneg (by decide))
theorem pow3 : ∀ n : Nat, n ≤ 24 → (3 : Int) ^ n ≤ 282429536481 := by decide +kernel
theorem pow_cut (i d : Nat) : (3 : Int) ^ (i + d) = 3 ^ i * 3 ^ d := Int.pow_add ..
theorem many_v (l : List S30) (hl : l.length ≤ 24) : ∀ (d i k : Nat) (x : Int), i + d = l.length → d < k → 0 ≤ x → x ≤ 3 ^ i → impl_SingMany.l0 k x l (l.length : Int) (i : Int) = some (x * prodL (rowsOf (l.drop i))) := by
  intro d
  induction d with
  | zero =>
    intro i k x hi hk h0 h1
    obtain ⟨k, rfl⟩ : ∃ m, k = m + 1 := ⟨k - 1, by omega⟩
    simp only [impl_SingMany.l0]
    rw [if_neg (by omega), List.drop_eq_nil_of_le (by omega)]
    simp [rowsOf, prodL]
  | succ d ih =>
    intro i k x hi hk h0 h1
    obtain ⟨k, rfl⟩ : ∃ m, k = m + 1 := ⟨k - 1, by omega⟩
    have hx : i < l.length := by omega
    have h3 : ((rowOf l[i]).length : Int) ≤ 3 := by have := hexOf_len3 l[i].f0 l[i].f1; unfold rowOf; omega
    have e1 : x * ((rowOf l[i]).length : Int) ≤ 3 ^ (i + 1) := by
      rw [Int.pow_succ]
      exact Int.mul_le_mul h1 h3 (by omega) (Int.pow_nonneg (by decide))
    have e2 : 0 ≤ x * ((rowOf l[i]).length : Int) := Int.mul_nonneg h0 (by omega)
    have e3 := pow3 (i + 1) (by omega)
    simp only [impl_SingMany.l0]
    rw [if_pos (by omega), if_pos (by omega), if_pos (by omega), rdt_at l i hx, show impl_HexAll.f l[i].f0 l[i].f1 = some (rowOf l[i]) from rfl, Option.bind_some, w1 (by omega), w0 (i := x * ((rowOf l[i]).length : Int)) (by omega) (by omega), ih (i + 1) k _ (by omega) (by omega) e2 e1, List.drop_eq_getElem_cons hx]
    show some _ = some (x * (((rowOf l[i]).length : Int) * prodL (rowsOf (l.drop (i + 1)))))
    rw [Int.mul_assoc]
def SM (l : List S30) : Int := if MV l = true then prodL (rowsOf l) else -1
theorem MV_len {l : List S30} (h : MV l = true) : l.length ≤ 24 := by
  unfold MV at h
  rw [Bool.and_eq_true] at h
  exact of_decide_eq_true h.1
theorem many_f (l : List S30) (k : Nat) (hk : 25 ≤ k) : impl_SingMany.f k l = some (SM l) := by
  unfold impl_SingMany.f SM
  rw [mvi_f l k hk, Option.bind_some]
  by_cases h : MV l = true
  · have hl := MV_len h
    rw [if_pos h, if_pos h]
    have := many_v l hl l.length 0 k 1 (by omega) (by omega) (by decide) (by decide)
    rw [List.drop_zero, Int.one_mul] at this
    exact this
  · rw [if_neg h, if_neg h]
/-- a melody all of whose tones have a hexachord -/
def SB (l : List S30) : Bool := MV l && decide (0 < prodL (rowsOf l))
theorem SB_iff (l : List S30) : SB l = true ↔ MV l = true ∧ Full (rowsOf l) := by
  unfold SB
  rw [Bool.and_eq_true, decide_eq_true_eq, prodL_pos]
def BST (l : List S30) : List Int × Bool := if SB l = true then (best none (rowsOf l), true) else (([] : List Int), false)
theorem besti_f (l : List S30) (k : Nat) (hk : 25 ≤ k) : impl_SingBest.f k l = some (BST l) := by
  unfold impl_SingBest.f BST SB
  rw [many_f l k hk, Option.bind_some]
  unfold SM
  have hn := prodL_nonneg (rowsOf l)
  cases hM : MV l with
  | false => rfl
  | true =>
    rw [if_pos rfl, Bool.true_and]
    by_cases h : 0 < prodL (rowsOf l)
    · rw [if_neg (by omega), if_pos (by rw [decide_eq_true_eq]; exact h)]
    · rw [if_pos (by omega), if_neg (by rw [decide_eq_true_eq]; exact h)]
def cnt : Int → List Int → Int
  | _, [] => 0
  | x, y :: t => (if y = x then 0 else 1) + cnt y t
def MU : List Int → Int
  | [] => 0
  | x :: t => cnt x t
theorem cnt_bd (s : List Int) : ∀ x, 0 ≤ cnt x s ∧ cnt x s ≤ s.length := by
  induction s with
  | nil => intro x; simp [cnt]
  | cons y t ih =>
    intro x
    have := ih y
    simp only [cnt, List.length_cons]
    split <;> omega
theorem MU_bd (s : List Int) : 0 ≤ MU s ∧ MU s ≤ s.length := by
  cases s with
  | nil => simp [MU]
  | cons x t => have := cnt_bd t x; simp only [MU, List.length_cons]; omega
theorem mui_l0 (s : List Int) (hb : s.length ≤ 1048576) : ∀ (d i k : Nat) (c : Int), i + d = s.length → d < k → 1 ≤ i → 0 ≤ c → c ≤ i → impl_SingMutations.l0 k s c (i : Int) = some (c + cnt (s.getD (i - 1) 0) (s.drop i)) := by
  intro d
  induction d with
  | zero =>
    intro i k c hi hk h1 h2 h3
    obtain ⟨k, rfl⟩ : ∃ m, k = m + 1 := ⟨k - 1, by omega⟩
    simp only [impl_SingMutations.l0]
    rw [if_neg (by omega), List.drop_eq_nil_of_le (by omega)]
    simp [cnt]
  | succ d ih =>
    intro i k c hi hk h1 h2 h3
    obtain ⟨k, rfl⟩ : ∃ m, k = m + 1 := ⟨k - 1, by omega⟩
    have hx : i < s.length := by omega
    have hy : i - 1 < s.length := by omega
    have e : wrap64 ((i : Int) - 1) = ((i - 1 : Nat) : Int) := by rw [w0 (by omega) (by omega)]; omega
    have ei : s.getD i 0 = s[i] := by rw [List.getD_eq_getElem?_getD, List.getElem?_eq_getElem hx]; rfl
    have ej : s.getD (i - 1) 0 = s[i - 1] := by rw [List.getD_eq_getElem?_getD, List.getElem?_eq_getElem hy]; rfl
    simp only [impl_SingMutations.l0]
    rw [e, if_pos (by omega), if_pos (by omega), if_pos (by omega), if_pos (by omega), rd_at s i hx, rd_at s (i - 1) hy, w1 (by omega), w0 (i := c + 1) (by omega) (by omega), ej, List.drop_eq_getElem_cons hx]
    have key := fun c h2 h3 => ih (i + 1) k c (by omega) (by omega) (by omega) h2 h3
    rw [Nat.add_sub_cancel, ei] at key
    simp only [cnt]
    by_cases h : s[i] = s[i - 1]
    · rw [if_pos h, if_pos h, key c (by omega) (by omega), Int.zero_add]
    · rw [if_neg h, if_neg h, key (c + 1) (by omega) (by omega), Int.add_assoc]
theorem mui_f (l : List S30) (s : List Int) (k : Nat) (hk : 60 ≤ k) : impl_SingMutations.f k l s = some (if SO l s = true then MU s else -1) := by
  unfold impl_SingMutations.f
  rw [soi_f l s k (by omega), Option.bind_some]
  by_cases h : SO l s = true
  · obtain ⟨h1, h2⟩ := SO_len h
    rw [if_pos h, if_pos h]
    cases s with
    | nil =>
      obtain ⟨k, rfl⟩ : ∃ m, k = m + 1 := ⟨k - 1, by omega⟩
      simp only [impl_SingMutations.l0]
      rw [if_neg (by simp)]
      rfl
    | cons x t =>
      have := mui_l0 (x :: t) (by omega) t.length 1 k 0 (by simp; omega) (by simp at h2; omega) (by omega) (by omega) (by omega)
      rw [show ((1 : Nat) : Int) = 1 from rfl] at this
      rw [this, Int.zero_add]
      rfl
  · rw [if_neg h, if_neg h]
theorem cnt_muts : ∀ (s : List Int) (x : Int), cnt x s = muts x s
  | [], x => rfl
  | y :: s, x => by
    simp only [cnt, muts, chg]
    rw [cnt_muts s y]
    by_cases h : x = y
    · rw [if_pos h.symm, if_pos h]
    · rw [if_neg (fun e => h e.symm), if_neg h]
theorem MU_mutL : ∀ s : List Int, MU s = mutL s
  | [] => rfl
  | x :: s => cnt_muts s x
theorem rows_len (m : List S30) : (rowsOf m).length = m.length := by simp [rowsOf]
theorem SG_fits : ∀ (m : List S30) (s : List Int), s.length = m.length → (SG m s = true ↔ Fits (rowsOf m) s)
  | [], [], _ => ⟨fun _ => .nil, fun _ => rfl⟩
  | [], x :: s, h => by simp at h
  | t :: m, [], h => by simp at h
  | t :: m, x :: s, h => by
    have ih := SG_fits m s (by simpa using h)
    have hm := mem_hex t.f0 t.f1 x
    show (if sylF x t.f0 t.f1 < 0 then false else SG m s) = true ↔ Fits (rowOf t :: rowsOf m) (x :: s)
    constructor
    · intro hs
      by_cases hx : sylF x t.f0 t.f1 < 0
      · rw [if_pos hx] at hs
        exact absurd hs (by decide)
      · rw [if_neg hx] at hs
        exact .cons (hm.2 (by omega)) (ih.1 hs)
    · intro hf
      cases hf with
      | cons hx hr =>
        rw [if_neg (by have := hm.1 hx; omega)]
        exact ih.2 hr
theorem SO_iff {m : List S30} {s : List Int} : SO m s = true ↔ MV m = true ∧ Fits (rowsOf m) s := by
  unfold SO
  rw [Bool.and_eq_true, Bool.and_eq_true, decide_eq_true_eq]
  constructor
  · rintro ⟨h1, h2, h3⟩
    exact ⟨h1, (SG_fits m s h2).1 h3⟩
  · rintro ⟨h1, h2⟩
    have hl := fits_len h2
    rw [rows_len] at hl
    exact ⟨h1, hl, (SG_fits m s hl).2 h2⟩
theorem mutv (m : List S30) (s : List Int) (k : Nat) (hk : 60 ≤ k) (hM : MV m = true) (hf : Fits (rowsOf m) s) : impl_SingMutations.f k m s = some (mutL s) := by
  rw [mui_f m s k hk, if_pos (SO_iff.2 ⟨hM, hf⟩), MU_mutL]
theorem mjoin_append (xs ys : List ByteArray) (hx : xs ≠ []) (hy : ys ≠ []) : mjoin (xs ++ ys) = mjoin xs ++ ⟨#[32]⟩ ++ mjoin ys := by
  cases xs with
  | nil => exact absurd rfl hx
  | cons x r =>
    cases ys with
    | nil => exact absurd rfl hy
    | cons y s =>
      apply ByteArray.ext
      rw [ByteArray.data_append, ByteArray.data_append]
      apply Array.ext'
      unfold mjoin
      simp [Lib.join_cons, Lib.joinTail, List.append_assoc]
theorem mti_f (l : List S30) (k : Nat) (hk : 25 ≤ k) : impl_MelodyText.f k l = some (if MV l = true then mjoin (l.map ttx) else ⟨#[]⟩) := by
  unfold impl_MelodyText.f
  rw [mvi_f l k hk, Option.bind_some]
theorem mjoin_size {l : List S30} (h : MV l = true) : (mjoin (l.map ttx)).size ≤ 96 := by
  have h1 := mvi_f l 25 (by omega)
  rw [h] at h1
  obtain ⟨h2, h3⟩ := mv_facts h1
  have := mt_small l h3
  show (Lib.join ((l.map ttx).map (·.data.toList)) [32]).length ≤ 96
  omega
theorem rdt_at' (xs : List S30) (i : Nat) (h : i < xs.length) : rd_T30 xs (i : Int) = xs[i] := by
  simp [rd_T30, List.getD_eq_getElem?_getD, h]
theorem sameT_l0 (xs : List S30) (hb : xs.length ≤ 1048576) : ∀ (d i k : Nat), i + d = xs.length → d < k → laws_sameTones.l0 k xs xs (i : Int) = some true := by
  intro d
  induction d with
  | zero =>
    intro i k hi hk
    obtain ⟨k, rfl⟩ : ∃ m, k = m + 1 := ⟨k - 1, by omega⟩
    simp only [laws_sameTones.l0]
    rw [if_neg (by omega)]
  | succ d ih =>
    intro i k hi hk
    obtain ⟨k, rfl⟩ : ∃ m, k = m + 1 := ⟨k - 1, by omega⟩
    simp only [laws_sameTones.l0]
    rw [if_pos (by omega), if_pos (by omega), if_pos (by omega), if_neg (by simp), w1 (by omega)]
    exact ih (i + 1) k (by omega) (by omega)
theorem sameT_f (xs : List S30) (k : Nat) (hb : xs.length ≤ 1048576) (hk : xs.length < k) : laws_sameTones.f k xs xs = some true := by
  unfold laws_sameTones.f
  rw [if_pos rfl]
  simpa using sameT_l0 xs hb xs.length 0 k (by omega) hk
theorem xor_nn (a b : Int) (ha : 0 ≤ a) (ha' : a < 4611686018427387904) (hb : 0 ≤ b) (hb' : b < 4611686018427387904) : 0 ≤ Go.bits .xor .i64 a b := by
  obtain ⟨x, rfl⟩ := Int.eq_ofNat_of_zero_le ha
  obtain ⟨y, rfl⟩ := Int.eq_ofNat_of_zero_le hb
  have hx : x ^^^ y < 2 ^ 62 := Nat.xor_lt_two_pow (by omega) (by omega)
  have h1 : (BitVec.ofInt 64 (x : Int)).toNat = x := by
    rw [BitVec.ofInt_natCast, BitVec.toNat_ofNat]; exact Nat.mod_eq_of_lt (by omega)
  have h2 : (BitVec.ofInt 64 (y : Int)).toNat = y := by
    rw [BitVec.ofInt_natCast, BitVec.toNat_ofNat]; exact Nat.mod_eq_of_lt (by omega)
  have e : Go.bits .xor .i64 (x : Int) (y : Int) = IntKind.i64.wrap (((x ^^^ y : Nat)) : Int) := by
    show IntKind.i64.wrap ((BitVec.ofInt 64 (x : Int) ^^^ BitVec.ofInt 64 (y : Int)).toNat : Int) = _
    rw [BitVec.toNat_xor, h1, h2]
  rw [e, IntWalk.i64_in _ (by omega)]
  omega
/-- A list of bytes. -/
def Bytes (l : List Int) : Prop := ∀ n ∈ l, 0 ≤ n ∧ n ≤ 255
theorem rd_byte {l : List Int} (h : Bytes l) (i : Int) (h0 : 0 ≤ i) (h1 : i < (l.length : Int)) : 0 ≤ rd l i ∧ rd l i ≤ 255 := by
  obtain ⟨n, rfl⟩ := Int.eq_ofNat_of_zero_le h0
  have hn : n < l.length := by omega
  rw [rd_at l n hn]
  exact h _ (List.getElem_mem hn)
theorem tm_bd (a n : Int) (ha : 0 ≤ a) (hn : 0 < n) : 0 ≤ Int.tmod a n ∧ Int.tmod a n < n := by
  rw [Int.tmod_eq_emod_of_nonneg ha]
  exact ⟨Int.emod_nonneg _ (by omega), Int.emod_lt_of_pos _ hn⟩
theorem td_bd (a n : Int) (ha : 0 ≤ a) (hn : 0 < n) : 0 ≤ Int.tdiv a n ∧ Int.tdiv a n ≤ a := by
  rw [Int.tdiv_eq_ediv_of_nonneg ha]
  exact ⟨Int.ediv_nonneg ha (by omega), Int.ediv_le_self _ ha⟩
theorem pick_some (l : List Int) (hl : Bytes l) (hn : l.length ≤ 2000) (p n : Int) (hp : 0 ≤ p) (hp' : p ≤ 1000000) (h1 : 1 ≤ n) (h2 : n ≤ 1000000) :
    ∃ v, 0 ≤ v ∧ v < n ∧ ∀ k, spec_l6Rd_pick.f (k + 1) l p n = some (v, p + 1) := by
  unfold spec_l6Rd_pick.f
  simp only [spec_l6Rd_pick.j0]
  rw [if_neg (show ¬ n < 1 by omega), w0 (i := p + 1) (by omega) (by omega), show p + 1 - 1 = p by omega, w0 (i := p) (by omega) (by omega)]
  by_cases hl0 : l.length = 0
  · refine ⟨0, by omega, by omega, fun k => ?_⟩
    rw [if_pos (show ((l.length : Int) == 0) = true by rw [hl0]; rfl)]
  · rw [if_neg (show ¬ (((l.length : Int) == 0) = true) from fun h => hl0 (by have := beq_iff_eq.1 h; omega))]
    have hlp : (0 : Int) < (l.length : Int) := by omega
    by_cases hpl : p < (l.length : Int)
    · obtain ⟨b0, b1⟩ := rd_byte hl p hp hpl
      rw [if_pos hpl, if_pos hp, if_neg (show ¬ n = 0 by omega), w0 (i := rd l p) (by omega) (by omega)]
      obtain ⟨t0, t1⟩ := tm_bd (rd l p) n b0 (by omega)
      exact ⟨_, t0, t1, fun _ => rfl⟩
    · rw [if_neg hpl, if_neg (show ¬ (l.length : Int) = 0 by omega), w0 (i := p * 7) (by omega) (by omega), w0 (i := p * 7 + 3) (by omega) (by omega)]
      obtain ⟨i0, i1⟩ := tm_bd p (l.length : Int) hp hlp
      obtain ⟨j0, j1⟩ := tm_bd (p * 7 + 3) (l.length : Int) (by omega) hlp
      obtain ⟨q0, q1⟩ := td_bd p (l.length : Int) hp hlp
      rw [if_pos i0, if_pos i1, if_pos j0, if_pos j1, if_neg (show ¬ n = 0 by omega)]
      obtain ⟨a0, a1⟩ := rd_byte hl _ i0 i1
      obtain ⟨b0, b1⟩ := rd_byte hl _ j0 j1
      generalize rd l (Int.tmod p (l.length : Int)) = a at a0 a1 ⊢
      generalize rd l (Int.tmod (p * 7 + 3) (l.length : Int)) = b at b0 b1 ⊢
      generalize Int.tdiv p (l.length : Int) = q at q0 q1 ⊢
      simp (disch := omega) only [w0]
      have x0 : 0 ≤ a * 131 + b * 1117 + p * 29 + q * 53 := by omega
      obtain ⟨d0, d1⟩ := td_bd (a * 131 + b * 1117 + p * 29 + q * 53) 64 x0 (by omega)
      rw [w0 (i := Int.tdiv (a * 131 + b * 1117 + p * 29 + q * 53) 64) (by omega) (by omega)]
      obtain ⟨t0, t1⟩ := tm_bd (Go.bits .xor .i64 (a * 131 + b * 1117 + p * 29 + q * 53) (Int.tdiv (a * 131 + b * 1117 + p * 29 + q * 53) 64)) n (xor_nn _ _ x0 (by omega) d0 (by omega)) (by omega)
      exact ⟨_, t0, t1, fun _ => rfl⟩
/-- What a reader's pick answers. -/
def pk (l : List Int) (p n : Int) : Int := ((spec_l6Rd_pick.f 1 l p n).getD (0, 0)).1
structure Rdr (l : List Int) : Prop where
  bytes : Bytes l
  len : l.length ≤ 2000
theorem pk_f {l : List Int} (h : Rdr l) (p n : Int) (k : Nat) (hp : 0 ≤ p) (hp' : p ≤ 1000000) (h1 : 1 ≤ n) (h2 : n ≤ 1000000) (hk : 1 ≤ k) : spec_l6Rd_pick.f k l p n = some (pk l p n, p + 1) := by
  obtain ⟨v, _, _, hv⟩ := pick_some l h.bytes h.len p n hp hp' h1 h2
  unfold pk
  rw [hv 0]
  obtain ⟨k, rfl⟩ : ∃ m, k = m + 1 := ⟨k - 1, by omega⟩
  rw [hv k]
  rfl
theorem pk_bd {l : List Int} (h : Rdr l) (p n : Int) (hp : 0 ≤ p) (hp' : p ≤ 1000000) (h1 : 1 ≤ n) (h2 : n ≤ 1000000) : 0 ≤ pk l p n ∧ pk l p n < n := by
  obtain ⟨v, h3, h4, hv⟩ := pick_some l h.bytes h.len p n hp hp' h1 h2
  unfold pk
  rw [hv 0]
  exact ⟨h3, h4⟩
theorem open_f (l : List Int) (hl : Bytes l) : ∃ s, spec_l6Open.f l = some (s, 0) ∧ Rdr s := by
  unfold spec_l6Open.f
  by_cases h : (l.length : Int) > 2000
  · rw [if_pos h, if_pos (by omega)]
    exact ⟨_, rfl, ⟨fun n hn => hl n (List.mem_of_mem_take hn), by simp; omega⟩⟩
  · rw [if_neg h]
    exact ⟨_, rfl, ⟨hl, by omega⟩⟩
theorem bytes_of {l : List Int} (h : ∀ n ∈ l, (Lit.int .u8 n).wf = true) : Bytes l := fun n hn => by
  have := h n hn
  simp [Lit.wf, IntKind.min, IntKind.max, IntKind.signed, IntKind.bits] at this
  omega
theorem letter_f (a : Int) : spec_l1Letter.f a = some (Int.tmod a 7) := rfl
theorem clamp_bd (a b x : Int) (h : a ≤ b) : a ≤ mx a (mn b x) ∧ mx a (mn b x) ≤ b := by
  unfold mx mn
  constructor <;> (repeat' split) <;> omega
theorem mel_end (l : List Int) (h : Rdr l) (acc : List S30) (n : Nat) (x p : Int) (hn : n ≤ 20) (ha : acc.length = n) (hp : 0 ≤ p) (hp' : p ≤ 100000) :
    ∃ m q, m.length = n ∧ p ≤ q ∧ q ≤ p + 2 ∧ ∀ k, 2 ≤ k → spec_l91Melody.l0 k acc (n : Int) x (n : Int) l p = some (m, q) := by
  by_cases h0 : n = 0
  · refine ⟨acc, p, ha, by omega, by omega, fun k hk => ?_⟩
    obtain ⟨k, rfl⟩ : ∃ m, k = m + 1 := ⟨k - 1, by omega⟩
    simp only [spec_l91Melody.l0]
    rw [if_neg (by omega), if_neg (by omega)]
  · by_cases h1 : pk l p 50 = 0
    · obtain ⟨v0, v1⟩ := pk_bd h (p + 1) 3 (by omega) (by omega) (by omega) (by omega)
      refine ⟨acc.set (0 : Int).toNat ⟨rd ([-1, 21, 20] : List Int) (pk l (p + 1) 3), (rd_T30 acc 0).f1⟩, p + 1 + 1, by simp [ha], by omega, by omega, fun k hk => ?_⟩
      obtain ⟨k, rfl⟩ : ∃ m, k = m + 1 := ⟨k - 1, by omega⟩
      simp only [spec_l91Melody.l0]
      rw [if_neg (by omega), if_pos (by omega), pk_f h p 50 k (by omega) (by omega) (by omega) (by omega) (by omega)]
      simp only [Option.bind_some]
      rw [if_pos h1, pk_f h (p + 1) 3 k (by omega) (by omega) (by omega) (by omega) (by omega)]
      simp only [Option.bind_some]
      rw [if_pos v0, if_pos (by simpa using v1), if_pos (by omega)]
    · by_cases h2 : pk l p 50 = 1
      · have e : wrap64 ((n : Int) - 1) = ((n - 1 : Nat) : Int) := by rw [w0 (by omega) (by omega)]; omega
        refine ⟨acc.set (((n - 1 : Nat) : Int)).toNat ⟨(rd_T30 acc ((n - 1 : Nat) : Int)).f0, true⟩, p + 1, by simp [ha], by omega, by omega, fun k hk => ?_⟩
        obtain ⟨k, rfl⟩ : ∃ m, k = m + 1 := ⟨k - 1, by omega⟩
        simp only [spec_l91Melody.l0]
        rw [if_neg (by omega), if_pos (by omega), pk_f h p 50 k (by omega) (by omega) (by omega) (by omega) (by omega)]
        simp only [Option.bind_some]
        rw [if_neg h1, if_pos h2, e, if_pos (by omega), if_pos (by omega)]
      · refine ⟨acc, p + 1, ha, by omega, by omega, fun k hk => ?_⟩
        obtain ⟨k, rfl⟩ : ∃ m, k = m + 1 := ⟨k - 1, by omega⟩
        simp only [spec_l91Melody.l0]
        rw [if_neg (by omega), if_pos (by omega), pk_f h p 50 k (by omega) (by omega) (by omega) (by omega) (by omega)]
        simp only [Option.bind_some]
        rw [if_neg h1, if_neg h2]
theorem mel_l0 (l : List Int) (h : Rdr l) (n : Nat) (hn : n ≤ 20) : ∀ (d i : Nat) (acc : List S30) (x p : Int), i + d = n → acc.length = i → 0 ≤ x → x ≤ 20 → 0 ≤ p → p ≤ 10000 + 2 * i →
    ∃ m q, m.length = n ∧ p ≤ q ∧ q ≤ p + 2 * d + 2 ∧ ∀ k, d + 2 ≤ k → spec_l91Melody.l0 k acc (n : Int) x (i : Int) l p = some (m, q) := by
  intro d
  induction d with
  | zero =>
    intro i acc x p hi ha h0 h1 hp hp'
    have e : i = n := by omega
    subst e
    obtain ⟨m, q, hm, q0, q1, hq⟩ := mel_end l h acc i x p hn ha hp (by omega)
    exact ⟨m, q, hm, q0, by omega, fun k hk => hq k (by omega)⟩
  | succ d ih =>
    intro i acc x p hi ha h0 h1 hp hp'
    by_cases hx : Int.tmod x 7 = 2
    · obtain ⟨v0, v1⟩ := pk_bd h (p + 1) 5 (by omega) (by omega) (by omega) (by omega)
      obtain ⟨c0, c1⟩ := clamp_bd 1 15 (x + pk l (p + 1) 5 - 2) (by omega)
      obtain ⟨m, q, hm, q0, q1, hq⟩ := ih (i + 1) (acc ++ [⟨x, pk l p 3 == 0⟩]) (mx 1 (mn 15 (x + pk l (p + 1) 5 - 2))) (p + 1 + 1) (by omega) (by simp [ha]) (by omega) (by omega) (by omega) (by omega)
      refine ⟨m, q, hm, by omega, by omega, fun k hk => ?_⟩
      obtain ⟨k, rfl⟩ : ∃ m, k = m + 1 := ⟨k - 1, by omega⟩
      simp only [spec_l91Melody.l0]
      rw [if_pos (by omega), letter_f]
      simp only [Option.bind_some]
      rw [if_pos hx, pk_f h p 3 k (by omega) (by omega) (by omega) (by omega) (by omega)]
      simp only [Option.bind_some]
      rw [if_pos (by omega), pk_f h (p + 1) 5 k (by omega) (by omega) (by omega) (by omega) (by omega)]
      simp only [Option.bind_some]
      rw [w1 (by omega), w0 (i := x + pk l (p + 1) 5) (by omega) (by omega), w0 (i := x + pk l (p + 1) 5 - 2) (by omega) (by omega)]
      exact hq k (by omega)
    · obtain ⟨v0, v1⟩ := pk_bd h p 5 (by omega) (by omega) (by omega) (by omega)
      obtain ⟨c0, c1⟩ := clamp_bd 1 15 (x + pk l p 5 - 2) (by omega)
      obtain ⟨m, q, hm, q0, q1, hq⟩ := ih (i + 1) (acc ++ [⟨x, false⟩]) (mx 1 (mn 15 (x + pk l p 5 - 2))) (p + 1) (by omega) (by simp [ha]) (by omega) (by omega) (by omega) (by omega)
      refine ⟨m, q, hm, by omega, by omega, fun k hk => ?_⟩
      obtain ⟨k, rfl⟩ : ∃ m, k = m + 1 := ⟨k - 1, by omega⟩
      simp only [spec_l91Melody.l0]
      rw [if_pos (by omega), letter_f]
      simp only [Option.bind_some]
      rw [if_neg hx, if_pos (by omega), pk_f h p 5 k (by omega) (by omega) (by omega) (by omega) (by omega)]
      simp only [Option.bind_some]
      rw [w1 (by omega), w0 (i := x + pk l p 5) (by omega) (by omega), w0 (i := x + pk l p 5 - 2) (by omega) (by omega)]
      exact hq k (by omega)
theorem mel_d (l : List Int) (h : Rdr l) (p : Int) (a : Nat) (ha : a ≤ 20) (hp : 0 ≤ p) (hp' : p ≤ 5000) : ∃ m q, m.length ≤ a ∧ p ≤ q ∧ q ≤ p + 100 ∧ ∀ k, 40 ≤ k → spec_l91Melody.f k l p (a : Int) = some (m, q) := by
  obtain ⟨v0, v1⟩ := pk_bd h p ((a : Int) + 1) (by omega) (by omega) (by omega) (by omega)
  obtain ⟨u0, u1⟩ := pk_bd h (p + 1) 5 (by omega) (by omega) (by omega) (by omega)
  obtain ⟨n, hn⟩ := Int.eq_ofNat_of_zero_le v0
  obtain ⟨m, q, hm, q0, q1, hq⟩ := mel_l0 l h n (by omega) n 0 [] (4 + pk l (p + 1) 5) (p + 1 + 1) (by omega) rfl (by omega) (by omega) (by omega) (by omega)
  refine ⟨m, q, by omega, by omega, by omega, fun k hk => ?_⟩
  unfold spec_l91Melody.f
  rw [w0 (i := (a : Int) + 1) (by omega) (by omega), pk_f h p ((a : Int) + 1) k (by omega) (by omega) (by omega) (by omega) (by omega)]
  simp only [Option.bind_some]
  rw [pk_f h (p + 1) 5 k (by omega) (by omega) (by omega) (by omega) (by omega)]
  simp only [Option.bind_some]
  rw [w0 (i := 4 + pk l (p + 1) 5) (by omega) (by omega), hn]
  exact hq k (by omega)
theorem MV_append (a b : List S30) : MV (a ++ b) = (decide (a.length + b.length ≤ 24) && (a.all tvv && b.all tvv)) := by
  unfold MV
  rw [List.length_append, List.all_append]
theorem MV_split {a : List S30} (h : MV a = true) : a.length ≤ 24 ∧ a.all tvv = true := by
  unfold MV at h
  rw [Bool.and_eq_true, decide_eq_true_eq] at h
  exact h
def JN (a b : List S30) : List S30 × Bool := if MV a = true then (if MV b = true then (if 24 < a.length + b.length then ([], false) else (a ++ b, true)) else ([], false)) else ([], false)
theorem joini_f (a b : List S30) (k : Nat) (hk : 25 ≤ k) : impl_MelodyJoin.f k a b = some (JN a b) := by
  unfold impl_MelodyJoin.f JN
  rw [mvi_f a k hk, Option.bind_some]
  by_cases h : MV a = true
  · rw [if_pos h, if_pos h, mvi_f b k hk, Option.bind_some]
  · rw [if_neg h, if_neg h]
theorem joins_f (a b : List S30) (k : Nat) (ha : a.length ≤ 1000) (hb : b.length ≤ 1000) (hk : 2100 ≤ k) : spec_MelodyJoin.f k a b = some (JN a b) := by
  unfold spec_MelodyJoin.f JN
  simp only [Option.bind_some, List.nil_append, List.length_nil]
  rw [if_pos (by omega), if_pos (by omega), mvs_f a (by omega) k (by omega), Option.bind_some]
  by_cases h : MV a = true
  · rw [if_pos h, if_pos h, mvs_f b (by omega) k (by omega), Option.bind_some]
    by_cases h2 : MV b = true
    · rw [if_pos h2, if_pos h2, mvs_f (a ++ b) (by rw [List.length_append]; omega) k (by rw [List.length_append]; omega), Option.bind_some, MV_append, (MV_split h).2, (MV_split h2).2]
      by_cases h3 : 24 < a.length + b.length
      · rw [if_pos h3, decide_eq_false (by omega), if_neg (by decide)]
      · rw [if_neg h3, decide_eq_true (by omega), if_pos (by decide)]
    · rw [if_neg h2, if_neg h2]
  · rw [if_neg h, if_neg h]
theorem rows_append (a b : List S30) : rowsOf (a ++ b) = rowsOf a ++ rowsOf b := by unfold rowsOf; rw [List.map_append]
theorem full_append (a b : List (List Int)) : Full (a ++ b) ↔ Full a ∧ Full b :=
  ⟨fun h => ⟨fun x hx => h x (List.mem_append.2 (.inl hx)), fun x hx => h x (List.mem_append.2 (.inr hx))⟩, fun h x hx => (List.mem_append.1 hx).elim (h.1 x) (h.2 x)⟩
theorem mutL_le (s : List Int) : mutL s ≤ s.length := by
  cases s with
  | nil => exact Int.le_refl _
  | cons x t =>
    have := muts_le t x
    show muts x t ≤ _
    rw [List.length_cons]
    omega
theorem join_j2 (a b : List S30) (ha : MV a = true) (hb : MV b = true) (hab : MV (a ++ b) = true) (k : Nat) (hk : 100 ≤ k) :
    laws_FnMelodyJoin.j2 k a b (a ++ b) (BST a).1 (BST b).1 (BST (a ++ b)).1 (BST (a ++ b)).2 false = some true := by
  obtain ⟨k, rfl⟩ : ∃ m, k = m + 1 := ⟨k - 1, by omega⟩
  simp only [laws_FnMelodyJoin.j2]
  rw [if_neg (by decide)]
  by_cases hs : SB (a ++ b) = true
  · obtain ⟨_, fu⟩ := (SB_iff _).1 hs
    rw [rows_append] at fu
    obtain ⟨fa, fb⟩ := (full_append _ _).1 fu
    have e : BST (a ++ b) = (best none (rowsOf (a ++ b)), true) := by unfold BST; rw [if_pos hs]
    have ea : BST a = (best none (rowsOf a), true) := by unfold BST; rw [if_pos ((SB_iff a).2 ⟨ha, fa⟩)]
    have eb : BST b = (best none (rowsOf b), true) := by unfold BST; rw [if_pos ((SB_iff b).2 ⟨hb, fb⟩)]
    have key := best_join fa fb (rows_asc a) (rows_asc b)
    rw [← rows_append] at fu key
    have ga := MV_len ha
    have gb := MV_len hb
    have la := mutL_le (best none (rowsOf a))
    have lb := mutL_le (best none (rowsOf b))
    rw [best_len, rows_len] at la lb
    have na := mut_nonneg (best none (rowsOf a))
    have nb := mut_nonneg (best none (rowsOf b))
    rw [e, ea, eb, mutv (a ++ b) _ k (by omega) hab (best_fits (rowsOf (a ++ b)) none fu (rows_asc _)), Option.bind_some, mutv a _ k (by omega) ha (best_fits (rowsOf a) none fa (rows_asc a)), Option.bind_some, mutv b _ k (by omega) hb (best_fits (rowsOf b) none fb (rows_asc b)), Option.bind_some, if_pos rfl,
      w0 (i := mutL (best none (rowsOf a)) + mutL (best none (rowsOf b))) (by omega) (by omega), w0 (by omega) (by omega), if_pos (by omega), decide_eq_true (by omega)]
  · have e : (BST (a ++ b)).2 = false := by unfold BST; rw [if_neg hs]
    rw [mui_f _ _ k (by omega), Option.bind_some, mui_f _ _ k (by omega), Option.bind_some, mui_f _ _ k (by omega), Option.bind_some, e, if_neg (by decide)]
theorem join_j1 (a b : List S30) (ha : MV a = true) (hb : MV b = true) (hab : MV (a ++ b) = true) (k : Nat) (hk : 200 ≤ k) :
    laws_FnMelodyJoin.j1 k a b (a ++ b) (BST a).1 (BST b).1 (BST (a ++ b)).1 (BST (a ++ b)).2 false = some true := by
  obtain ⟨k, rfl⟩ : ∃ m, k = m + 1 := ⟨k - 1, by omega⟩
  simp only [laws_FnMelodyJoin.j1]
  rw [if_neg (by decide)]
  by_cases h0 : (a.length : Int) > 0
  · rw [if_pos h0]
    by_cases h1 : (b.length : Int) > 0
    · have sa := mjoin_size ha
      have sb := mjoin_size hb
      have sc : (mjoin (a.map ttx) ++ (⟨#[32]⟩ : ByteArray)).size = (mjoin (a.map ttx)).size + 1 := by rw [ByteArray.size_append]; rfl
      have e : mjoin ((a ++ b).map ttx) = mjoin (a.map ttx) ++ ⟨#[32]⟩ ++ mjoin (b.map ttx) := by
        rw [List.map_append]
        refine mjoin_append _ _ ?_ ?_
        · intro e
          have := congrArg List.length e
          rw [List.length_map, List.length_nil] at this
          omega
        · intro e
          have := congrArg List.length e
          rw [List.length_map, List.length_nil] at this
          omega
      rw [if_pos h1, mti_f _ k (by omega), if_pos hab, Option.bind_some, mti_f _ k (by omega), if_pos ha, Option.bind_some, if_pos (by omega), mti_f _ k (by omega), if_pos hb, Option.bind_some, if_pos (by omega), e, bne_self_eq_false]
      exact join_j2 a b ha hb hab k (by omega)
    · rw [if_neg h1]
      exact join_j2 a b ha hb hab k (by omega)
  · rw [if_neg h0]
    exact join_j2 a b ha hb hab k (by omega)
theorem join_many (a b : List S30) (ha : MV a = true) (hb : MV b = true) (hab : MV (a ++ b) = true) : SM (a ++ b) = wrap64 (SM a * SM b) ∧ (BST (a ++ b)).2 = ((BST a).2 && (BST b).2) := by
  have g := MV_len hab
  have hp : prodL (rowsOf (a ++ b)) = prodL (rowsOf a) * prodL (rowsOf b) := by rw [rows_append, prodL_append]
  have h1 := prodL_le (a ++ b)
  have h2 := pow3 _ g
  have h3 := prodL_nonneg (rowsOf (a ++ b))
  have d : ∀ l : List S30, (BST l).2 = SB l := fun l => by
    unfold BST
    by_cases h : SB l = true
    · rw [if_pos h, h]
    · rw [if_neg h]
      exact (Bool.eq_false_iff.2 h).symm
  constructor
  · unfold SM
    rw [if_pos ha, if_pos hb, if_pos hab, ← hp, w0 (by omega) (by omega)]
  · rw [d, d, d]
    have key : SB (a ++ b) = true ↔ (SB a && SB b) = true := by
      rw [Bool.and_eq_true, SB_iff, SB_iff, SB_iff, rows_append, full_append]
      exact ⟨fun h => ⟨⟨ha, h.2.1⟩, hb, h.2.2⟩, fun h => ⟨hab, h.1.2, h.2.2⟩⟩
    cases h : SB (a ++ b) with
    | true => exact (key.1 h).symm
    | false =>
      cases h2 : (SB a && SB b) with
      | true => rw [key.2 h2] at h; exact absurd h (by decide)
      | false => rfl
theorem join_law (a b : List S30) (ha : a.length ≤ 20) (hb : b.length ≤ 20) (k : Nat) (hk : 2200 ≤ k) (l0 : List Int) (hl : ¬ (l0.length : Int) > 1048576) (hd : spec_DrawMelodyJoin.f k l0 = some (a, b)) : laws_FnMelodyJoin.f k l0 = some true := by
  unfold laws_FnMelodyJoin.f
  have hjl : (JN a b).1.length ≤ 40 := by
    unfold JN
    split
    · split
      · split
        · simp
        · rw [List.length_append]; omega
      · simp
    · simp
  obtain ⟨k', hk'⟩ : ∃ m, k = m + 1 := ⟨k - 1, by omega⟩
  rw [if_neg hl, hd, Option.bind_some, joini_f a b k (by omega), Option.bind_some, joins_f a b k (by omega) (by omega) (by omega), Option.bind_some, bne_self_eq_false, if_neg (by decide), sameT_f _ k (by omega) (by omega), Option.bind_some, if_pos rfl, hk']
  by_cases hj : (JN a b).2 = true
  · have h1 : MV a = true := by
      by_cases h : MV a = true
      · exact h
      · unfold JN at hj; rw [if_neg h] at hj; exact absurd hj (by decide)
    have h2 : MV b = true := by
      by_cases h : MV b = true
      · exact h
      · unfold JN at hj; rw [if_pos h1, if_neg h] at hj; exact absurd hj (by decide)
    have h3 : ¬ 24 < a.length + b.length := by
      intro h
      unfold JN at hj
      rw [if_pos h1, if_pos h2, if_pos h] at hj
      exact absurd hj (by decide)
    have e : JN a b = (a ++ b, true) := by unfold JN; rw [if_pos h1, if_pos h2, if_neg h3]
    have hab : MV (a ++ b) = true := by
      rw [MV_append, (MV_split h1).2, (MV_split h2).2, decide_eq_true (by omega)]
      rfl
    obtain ⟨m1, m2⟩ := join_many a b h1 h2 hab
    have fin := join_j1 a b h1 h2 hab k' (by omega)
    rw [e]
    simp only [laws_FnMelodyJoin.j0]
    rw [if_neg (by decide), besti_f a k' (by omega), Option.bind_some, besti_f b k' (by omega), Option.bind_some, besti_f (a ++ b) k' (by omega), Option.bind_some, many_f (a ++ b) k' (by omega), Option.bind_some, many_f a k' (by omega), Option.bind_some, many_f b k' (by omega), Option.bind_some, if_pos m1]
    by_cases hp : (BST a).2 = true
    · rw [hp, Bool.true_and] at m2
      rw [if_pos hp, m2, bne_self_eq_false, ← m2]
      exact fin
    · rw [Bool.not_eq_true] at hp
      rw [hp, Bool.false_and] at m2
      rw [if_neg (by rw [hp]; decide)]
      have e2 : ((BST (a ++ b)).2 != false) = false := by rw [m2]; rfl
      rw [e2]
      exact fin
  · have hj2 := hj
    rw [Bool.not_eq_true] at hj
    rw [hj]
    simp only [laws_FnMelodyJoin.j0]
    rw [if_pos (by decide), if_pos (by decide), sameT_f _ k' (by omega) (by omega), Option.bind_some]
theorem FnMelodyJoin : ∀ (l0 : List Int), l0.length ≤ maxLen → l0.length * 1 ≤ 140737488351232 → (∀ n ∈ l0, (Lit.int .u8 n).wf = true) → ∃ k, laws_FnMelodyJoin.f k l0 = some true := by
  intro l0 z1 z2 hw
  refine ⟨2500, ?_⟩
  by_cases h : (l0.length : Int) > 1048576
  · unfold laws_FnMelodyJoin.f
    rw [if_pos h]
  · obtain ⟨o, ho, hR⟩ := open_f l0 (bytes_of hw)
    obtain ⟨a, q, hm, q0, q1, hq⟩ := mel_d o hR 0 10 (by omega) (by omega) (by omega)
    obtain ⟨b, q', hm', _, _, hq'⟩ := mel_d o hR (q + 1) 10 (by omega) (by omega) (by omega)
    have hq2 := hq 2500 (by omega)
    have hq3 := hq' 2500 (by omega)
    rw [show ((10 : Nat) : Int) = 10 from rfl] at hq2 hq3
    have hpk := pk_f hR q 12 2500 (by omega) (by omega) (by omega) (by omega) (by omega)
    by_cases h0 : pk o q 12 = 0
    · refine join_law (a ++ a) b (by rw [List.length_append]; omega) (by omega) 2500 (by omega) l0 h ?_
      unfold spec_DrawMelodyJoin.f
      rw [ho]
      simp only [Option.bind_some]
      rw [hq2, Option.bind_some, hpk, Option.bind_some, if_pos h0]
      simp only [Option.bind_some, List.nil_append, List.length_nil]
      rw [if_pos (by omega), if_pos (by omega), hq3, Option.bind_some]
    · refine join_law a b (by omega) (by omega) 2500 (by omega) l0 h ?_
      unfold spec_DrawMelodyJoin.f
      rw [ho]
      simp only [Option.bind_some]
      rw [hq2, Option.bind_some, hpk, Option.bind_some, if_neg h0, hq3, Option.bind_some]

end Go.Proofs.YtcndojoghmblaaaDoor.PureFnMelodyJoin
