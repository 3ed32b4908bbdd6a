/- FnExecuteMelody: for every list of at most 1048576 bytes, the law of Execute's melody, show, steps and sing holds of the melody that the reference draws from it, and the list reads as before (longer lists the statement lets pass). The tables letterNames, syllableNames and the library's uint64pow10 are tied to the program's text; of the library's own variable internal/bytealg.MaxLen the world's shape alone is used. No condition beyond the statement's own. -/
import Derived.Test.YtjnkmckklmabcaaGreatDoorXLx0
import Derived.Test.YtjnkmckklmabcaaGreatDoorXLx9
import Derived.Test.YtjnkmckklmabcaaGreatDoorXLx2
import Derived.Test.YtjnkmckklmabcaaGreatDoorXLx10
import Derived.Test.YtjnkmckklmabcaaGreatDoorXLx4
import Derived.Test.YtjnkmckklmabcaaGreatDoorXLx7
import Derived.Test.YtjnkmckklmabcaaGreatDoorXLx3
import Derived.Test.YtjnkmckklmabcaaGreatDoorXLx6
import Derived.Test.YtjnkmckklmabcaaGreatDoorXLx5
import Derived.Test.YtjnkmckklmabcaaGreatDoorXLx11
import Derived.Test.YtjnkmckklmabcaaGreatDoorXLx12
import Derived.Test.YtjnkmckklmabcaaGreatDoorXLx8
import Derived.Laws.Bits64
namespace Go.Proofs.YtjnkmckklmabcaaGreatDoor.PureFnExecuteMelody
open Go.RowKit Go.Proofs.YtjnkmckklmabcaaGreatDoor.XL Go.Proofs.YtjnkmckklmabcaaGreatDoorW.PrintWords Go.Proofs.YtjnkmckklmabcaaGreatDoorW.PrintLast Go.Proofs.YtjnkmckklmabcaaGreatDoorW.PrintMore 
set_option linter.unusedVariables false
set_option linter.unusedSimpArgs false
theorem w1 {i : Nat} (h : i < 4611686018427387904) : wrap64 ((i : Int) + 1) = ((i + 1 : Nat) : Int) := by
 unfold wrap64
 omega
theorem w0 {i : Int} (h : -9223372036854775808 ≤ i) (h' : i ≤ 9223372036854775807) : wrap64 i = i := by
 unfold wrap64
 omega
theorem rd_at (xs : List Int) (i : Nat) (h : i < xs.length) : rd xs (i : Int) = xs[i] := by
 simp [rd, List.getD_eq_getElem?_getD, h]
/-- A tone of the gamut. -/
def tv (a : Int) (b : Bool) : Bool := decide (0 ≤ a) && (decide (a ≤ 20) && (!b || decide (Int.tmod a 7 = 2)))
theorem tv_spec (a : Int) (b : Bool) : spec_ToneValid.f a b = some (tv a b) := by
 unfold spec_ToneValid.f spec_l6In.f spec_l1Letter.f tv
 by_cases h0 : a ≥ 0
 ·rw [if_pos h0, decide_eq_true (show 0 ≤ a from h0)]
  by_cases h1 : a ≤ 20
  ·simp only [h1, decide_true, Option.bind_some, if_true, Bool.true_and]
   cases b
   ·rfl
   ·simp
    rfl
  ·simp [h1]
 ·rw [if_neg h0, decide_eq_false (show ¬ 0 ≤ a from h0)]
  rfl
theorem tv_impl (a : Int) (b : Bool) : impl_Tone_valid.f a b = some (tv a b) := by
 unfold impl_Tone_valid.f tv
 by_cases h0 : a ≥ 0
 ·rw [if_pos h0, decide_eq_true (show 0 ≤ a from h0)]
  by_cases h1 : a ≤ 20
  ·rw [if_pos h1, decide_eq_true h1]
   cases b
   ·rfl
   ·simp
    rfl
  ·rw [if_neg h1, decide_eq_false h1]
   rfl
 ·rw [if_neg h0, decide_eq_false (show ¬ 0 ≤ a from h0)]
  rfl
theorem wrap64_in (x : Int) (h1 : -9223372036854775808 ≤ x) (h2 : x < 9223372036854775808) : wrap64 x = x := IntWalk.wrap64_in x (by omega)
theorem mono_add {α : Type} {f : Nat → Option α} (h : ∀ j, LeO (f j) (f (j + 1))) {j : Nat} : ∀ (k : Nat) (r : α), f j = some r → f (j + k) = some r
 | 0, _, e => e
 | k + 1, r, e => h (j + k) r (mono_add h k r e)
theorem in_f (a b c : Int) : spec_l6In.f a b c = some (decide (b ≤ a) && decide (a ≤ c)) := by
 unfold spec_l6In.f
 split <;> rename_i h <;> simp_all
 omega
theorem hex_out {x : Int} (h : ¬ (0 ≤ x ∧ x ≤ 14)) : isHex x = false := by
 rcases hex_cases x with ⟨_, k, hk, e⟩ | ⟨e, _⟩
 ·exfalso
  have : k = 0 ∨ k = 1 ∨ k = 2 ∨ k = 3 ∨ k = 4 ∨ k = 5 ∨ k = 6 := by omega
  rcases this with rfl | rfl | rfl | rfl | rfl | rfl | rfl <;> simp [hexAll] at e <;> omega
 ·exact e
theorem hexvalid_f (x : Int) : spec_HexValid.f x = some (isHex x) := by
 by_cases h : 0 ≤ x ∧ x ≤ 15
 ·obtain ⟨n, rfl⟩ := Int.eq_ofNat_of_zero_le h.1
  have hn : n < 16 := by omega
  have key : ∀ n : Nat, n < 16 → spec_HexValid.f (n : Int) = some (isHex (n : Int)) := by decide +kernel
  exact key n hn
 ·rw [hex_out (by omega)]
  unfold spec_HexValid.f
  rw [in_f]
  have : (decide (0 ≤ x) && decide (x ≤ 15)) = false := by
   simp only [Bool.and_eq_false_iff, decide_eq_false_iff_not]
   omega
  rw [this]
  rfl
theorem hextone_out {x : Int} (h : ¬ (0 ≤ x ∧ x ≤ 14)) (y : Int) : spec_HexTone.f x y = some (0, false, false) := by
 unfold spec_HexTone.f
 rw [hexvalid_f, hex_out h]
 rfl
theorem hextone_in (n m : Nat) (hn : n < 15) (hm : m < 6) : ∃ t, spec_HexTone.f (n : Int) (m : Int) = some t ∧ 0 ≤ t.1 ∧ t.1 ≤ 20 := by
 have key : ∀ n : Nat, n < 15 → ∀ m : Nat, m < 6 → (match spec_HexTone.f (n : Int) (m : Int) with | some t => decide (0 ≤ t.1 ∧ t.1 ≤ 20) | none => false) = true := by decide +kernel
 have h := key n hn m hm
 cases e : spec_HexTone.f (n : Int) (m : Int) with
 | none => rw [e] at h; cases h
 | some t => rw [e] at h; exact ⟨t, rfl, by simpa using h⟩
theorem sylspec_no (a0 a1 : Int) (b1 : Bool) (h : ∀ m : Nat, m < 6 → ∃ t, spec_HexTone.f a0 (m : Int) = some t ∧ (t.2.2 = true → (t.1 == a1) = false)) :
  ∀ d, d ≤ 6 → ∀ k, spec_HexSyllable.l0 (k + d + 1) a0 ((6 - d : Nat) : Int) a1 b1 = some (-1)
 | 0, _, k => by
  unfold spec_HexSyllable.l0
  rw [if_neg (by omega)]
 | d + 1, hd, k => by
  obtain ⟨t, ht, hn⟩ := h (6 - (d + 1)) (by omega)
  have ih := sylspec_no a0 a1 b1 h d (by omega) k
  have ew : wrap64 (((6 - (d + 1) : Nat) : Int) + 1) = ((6 - d : Nat) : Int) := by
   rw [wrap64_in _ (by omega) (by omega)]
   omega
  rw [show k + (d + 1) + 1 = (k + d + 1) + 1 by omega]
  unfold spec_HexSyllable.l0
  rw [if_pos (by omega), ht, Option.bind_some, ew]
  cases e : t.2.2 with
  | false => rw [if_neg (by decide)]; exact ih
  | true => rw [if_pos rfl, hn e, Bool.false_and, if_neg (by decide)]; exact ih
theorem syl_no (a0 a1 : Int) (b1 : Bool) (h : ¬ (0 ≤ a0 ∧ a0 ≤ 14 ∧ 0 ≤ a1 ∧ a1 ≤ 20)) (k : Nat) : spec_HexSyllable.f (k + 7) a0 a1 b1 = some (-1) := by
 unfold spec_HexSyllable.f
 refine sylspec_no a0 a1 b1 (fun m hm => ?_) 6 (Nat.le_refl _) k
 by_cases h0 : 0 ≤ a0 ∧ a0 ≤ 14
 ·obtain ⟨n, rfl⟩ := Int.eq_ofNat_of_zero_le h0.1
  obtain ⟨t, ht, h1, h2⟩ := hextone_in n m (by omega) hm
  exact ⟨t, ht, fun _ => by simp; omega⟩
 ·exact ⟨_, hextone_out h0 _, fun h => by cases h⟩
theorem valid_f (a : Int) (b : Bool) : ∃ v, impl_Tone_valid.f a b = some v ∧ (¬ (0 ≤ a ∧ a ≤ 20) → v = false) := by
 unfold impl_Tone_valid.f
 by_cases h0 : a ≥ 0
 ·by_cases h1 : a ≤ 20
  ·rw [if_pos h0, if_pos h1]
   cases b
   ·exact ⟨_, rfl, fun h => absurd ⟨h0, h1⟩ h⟩
   ·exact ⟨_, rfl, fun h => absurd ⟨h0, h1⟩ h⟩
  ·rw [if_pos h0, if_neg h1]
   exact ⟨_, rfl, fun _ => rfl⟩
 ·rw [if_neg h0]
  exact ⟨_, rfl, fun _ => rfl⟩
theorem sylimpl_no (a0 a1 : Int) (b1 : Bool) (h : ¬ (0 ≤ a0 ∧ a0 ≤ 14 ∧ 0 ≤ a1 ∧ a1 ≤ 20)) : impl_HexSyllable.f a0 a1 b1 = some (-1) := by
 obtain ⟨v, hv, hn⟩ := valid_f a1 b1
 unfold impl_HexSyllable.f
 rw [hv, Option.bind_some]
 by_cases h0 : 0 ≤ a0 ∧ a0 ≤ 14
 ·rw [hn (by omega)]
  cases isHex a0 <;> rfl
 ·rw [hex_out h0]
  rfl
theorem syl_same (a0 a1 : Int) (b1 : Bool) (k : Nat) : ∃ s, spec_HexSyllable.f (k + 7) a0 a1 b1 = some s ∧ impl_HexSyllable.f a0 a1 b1 = some s ∧ -1 ≤ s ∧ s ≤ 5 := by
 by_cases h : 0 ≤ a0 ∧ a0 ≤ 14 ∧ 0 ≤ a1 ∧ a1 ≤ 20
 ·obtain ⟨n, rfl⟩ := Int.eq_ofNat_of_zero_le h.1
  obtain ⟨m, rfl⟩ := Int.eq_ofNat_of_zero_le h.2.2.1
  have key : ∀ b : Bool, ∀ n : Nat, n < 15 → ∀ m : Nat, m < 21 → (match spec_HexSyllable.f 7 (n : Int) (m : Int) b with | some s => decide (impl_HexSyllable.f (n : Int) (m : Int) b = some s ∧ -1 ≤ s ∧ s ≤ 5) | none => false) = true := by decide +kernel
  have h := key b1 n (by omega) m (by omega)
  cases e : spec_HexSyllable.f 7 (n : Int) (m : Int) b1 with
  | none => rw [e] at h; cases h
  | some s =>
   rw [e] at h
   have h' := of_decide_eq_true h
   refine ⟨s, ?_, h'⟩
   rw [Nat.add_comm]
   exact mono_add (fun j => spec_HexSyllable.mono _ _ _ j) k _ e
 ·exact ⟨-1, syl_no a0 a1 b1 h k, sylimpl_no a0 a1 b1 h, by omega, by omega⟩
def tvv (t : S74) : Bool := tv t.f0 t.f1
theorem rdt_at (xs : List S74) (i : Nat) (h : i < xs.length) : rd_T74 xs (i : Int) = xs[i] := by
 simp [rd_T74, List.getD_eq_getElem?_getD, h]
def MV (l : List S74) : Bool := decide (l.length ≤ 24) && l.all tvv
theorem mvs_l0 (l : List S74) (hb : l.length < 4611686018427387904) : ∀ (d i k : Nat), i + d = l.length → d < k → (l.take i).all tvv = true → spec_MelodyValid.l0 k l (i : Int) = some (MV l) := by
 intro d
 induction d with
 | zero =>
  intro i k hi hk hv
  obtain ⟨k, rfl⟩ : ∃ m, k = m + 1 := ⟨k - 1, by omega⟩
  rw [List.take_of_length_le (by omega)] at hv
  simp only [spec_MelodyValid.l0]
  rw [if_neg (by omega)]
  unfold MV
  rw [hv, Bool.and_true]
  congr 1
  rw [decide_eq_decide]
  omega
 | succ d ih =>
  intro i k hi hk hv
  obtain ⟨k, rfl⟩ : ∃ m, k = m + 1 := ⟨k - 1, by omega⟩
  have hx : i < l.length := by omega
  simp only [spec_MelodyValid.l0]
  rw [if_pos (by omega), if_pos (by omega), rdt_at l i hx, tv_spec]
  simp only [Option.bind_some]
  by_cases hvi : tv l[i].f0 l[i].f1 = true
  ·rw [if_pos hvi, w1 (by omega)]
   refine ih (i + 1) k (by omega) (by omega) ?_
   rw [List.take_succ_eq_append_getElem hx, List.all_append, hv]
   simp [tvv, hvi]
  ·rw [if_neg hvi]
   have : l.all tvv = false := by
    rw [Bool.eq_false_iff]
    intro h
    exact hvi (List.all_eq_true.1 h _ (List.getElem_mem hx))
   unfold MV
   rw [this, Bool.and_false]
theorem mvs_f (l : List S74) (hb : l.length ≤ 1048576) (k : Nat) (hk : l.length < k) : spec_MelodyValid.f k l = some (MV l) := by
 unfold spec_MelodyValid.f
 simpa using mvs_l0 l (by omega) l.length 0 k (by omega) (by omega) (by simp)
theorem mvi_l0 (l : List S74) (hb : l.length < 4611686018427387904) : ∀ (d i k : Nat), i + d = l.length → d < k → impl_MelodyValid.l0 k l (l.length : Int) (i : Int) = some ((l.drop i).all tvv) := by
 intro d
 induction d with
 | zero =>
  intro i k hi hk
  obtain ⟨k, rfl⟩ : ∃ m, k = m + 1 := ⟨k - 1, by omega⟩
  simp only [impl_MelodyValid.l0]
  rw [if_neg (by omega), List.drop_eq_nil_of_le (by omega)]
  rfl
 | succ d ih =>
  intro i k hi hk
  obtain ⟨k, rfl⟩ : ∃ m, k = m + 1 := ⟨k - 1, by omega⟩
  have hx : i < l.length := by omega
  simp only [impl_MelodyValid.l0]
  rw [if_pos (by omega), if_pos (by omega), if_pos (by omega), rdt_at l i hx, tv_impl, List.drop_eq_getElem_cons hx, List.all_cons]
  simp only [Option.bind_some]
  by_cases ht : tv l[i].f0 l[i].f1 = true
  ·rw [if_pos ht, w1 (by omega), ih (i + 1) k (by omega) (by omega), show tvv l[i] = true from ht, Bool.true_and]
  ·rw [if_neg ht, show tvv l[i] = false from Bool.eq_false_iff.mpr ht, Bool.false_and]
theorem mvi_f (l : List S74) (k : Nat) (hk : 25 ≤ k) : impl_MelodyValid.f k l = some (MV l) := by
 unfold impl_MelodyValid.f MV
 by_cases h : l.length ≤ 24
 ·rw [if_neg (by omega), decide_eq_true h, Bool.true_and]
  simpa using mvi_l0 l (by omega) l.length 0 k (by omega) (by omega)
 ·rw [if_pos (by omega), decide_eq_false h, Bool.false_and]

theorem mti_f (l : List S74) (k : Nat) (hk : 25 ≤ k) : impl_MelodyText.f k l = some (if MV l = true then mjoin (l.map ttx) else ⟨#[]⟩) := by
 unfold impl_MelodyText.f
 rw [mvi_f l k hk, Option.bind_some]
theorem mjoin_size {l : List S74} (h : MV l = true) : (mjoin (l.map ttx)).size ≤ 96 := by
 have h1 := mvi_f l 25 (by omega)
 rw [h] at h1
 obtain ⟨h2, h3⟩ := mv_facts h1
 have := mt_small l h3
 show (Lib.join ((l.map ttx).map (·.data.toList)) [32]).length ≤ 96
 omega
theorem tv_bd {a : Int} {b : Bool} (h : tv a b = true) : 0 ≤ a ∧ a ≤ 20 := by
 unfold tv at h
 simp only [Bool.and_eq_true, decide_eq_true_eq] at h
 exact ⟨h.1, h.2.1⟩
def tfOk' (s : ByteArray) (m : Nat) (b : Bool) : Bool := (impl_Tone_valid.f (m : Int) b == some true) && (((impl_Tone_text.f (m : Int) b).getD ⟨#[]⟩).data.toList == s.data.toList)
def tfGo' (s : ByteArray) : Nat → Nat → S74 × Bool
 | 0, _ => (⟨0, false⟩, false)
 | d + 1, m => if tfOk' s m false = true then (⟨(m : Int), false⟩, true) else if tfOk' s m true = true then (⟨(m : Int), true⟩, true) else tfGo' s d (m + 1)
theorem tfOk_eq (s : ByteArray) (m : Nat) (b : Bool) : tfOk s m b = tfOk' s m b := by
 unfold tfOk tfOk'
 rw [ByteArray.toList_eq, ByteArray.toList_eq]
theorem tfGo_eq (s : ByteArray) : ∀ d m, tfGo s d m = tfGo' s d m
 | 0, _ => rfl
 | d + 1, m => by
  simp only [tfGo, tfGo']
  rw [tfOk_eq, tfOk_eq, tfGo_eq s d (m + 1)]
theorem tf_dec : ∀ m, m < 21 → ∀ b : Bool, tv ((m : Nat) : Int) b = true → (tfGo' ((impl_Tone_text.f (m : Int) b).getD ⟨#[]⟩) 21 0).1.f0 = (m : Int) ∧ (tfGo' ((impl_Tone_text.f (m : Int) b).getD ⟨#[]⟩) 21 0).1.f1 = b ∧ (tfGo' ((impl_Tone_text.f (m : Int) b).getD ⟨#[]⟩) 21 0).2 = true := by decide +kernel
theorem tf_ttx {t : S74} (h : tvv t = true) : tfGo (ttx t) 21 0 = (t, true) := by
 obtain ⟨a, b⟩ := t
 have hb := tv_bd (show tv a b = true from h)
 obtain ⟨m, rfl⟩ := Int.eq_ofNat_of_zero_le hb.1
 obtain ⟨h1, h2, h3⟩ := tf_dec m (by omega) b h
 rw [tfGo_eq]
 show tfGo' ((impl_Tone_text.f (m : Int) b).getD ⟨#[]⟩) 21 0 = _
 generalize tfGo' ((impl_Tone_text.f (m : Int) b).getD ⟨#[]⟩) 21 0 = P at h1 h2 h3 ⊢
 obtain ⟨⟨x, y⟩, z⟩ := P
 have g1 : x = (m : Int) := h1
 have g2 : y = b := h2
 have g3 : z = true := h3
 rw [g1, g2, g3]
theorem ttx_all : ∀ m, m < 21 → ∀ b : Bool, ((impl_Tone_text.f ((m : Nat) : Int) b).getD ⟨#[]⟩).data.toList ≠ [] ∧ ¬ (32 : UInt8) ∈ ((impl_Tone_text.f ((m : Nat) : Int) b).getD ⟨#[]⟩).data.toList := by decide +kernel
theorem ttx_facts {t : S74} (h : tvv t = true) : (ttx t).data.toList ≠ [] ∧ ¬ (32 : UInt8) ∈ (ttx t).data.toList := by
 obtain ⟨a, b⟩ := t
 have hb := tv_bd (show tv a b = true from h)
 obtain ⟨m, rfl⟩ := Int.eq_ofNat_of_zero_le hb.1
 exact ttx_all m (by omega) b
theorem idx_miss : ∀ l : List UInt8, ¬ (32 : UInt8) ∈ l → Lib.index l [32] = -1
 | [], _ => rfl
 | b :: l, h => by
  have ih := idx_miss l (fun x => h (List.mem_cons_of_mem _ x))
  have hb : (32 : UInt8) ≠ b := fun e => h (by rw [e]; exact List.mem_cons_self ..)
  unfold Lib.index
  rw [if_neg (by simpa [List.isPrefixOf] using hb), ih]
  rfl
theorem idx_hit : ∀ (l r : List UInt8), ¬ (32 : UInt8) ∈ l → Lib.index (l ++ 32 :: r) [32] = (l.length : Int)
 | [], r, _ => by
  show Lib.index (32 :: r) [32] = 0
  unfold Lib.index
  rw [if_pos (by simp [List.isPrefixOf])]
 | b :: l, r, h => by
  have ih := idx_hit l r (fun x => h (List.mem_cons_of_mem _ x))
  have hb : (32 : UInt8) ≠ b := fun e => h (by rw [e]; exact List.mem_cons_self ..)
  rw [List.cons_append]
  unfold Lib.index
  rw [if_neg (by simpa [List.isPrefixOf] using hb), ih, if_neg (by simp), List.length_cons]
  omega
theorem split_join : ∀ xs : List (List UInt8), xs ≠ [] → (∀ x ∈ xs, ¬ (32 : UInt8) ∈ x) → Lib.splitK [32] 0 (Lib.count (Lib.join xs [32]) [32]) (Lib.join xs [32]) = xs
 | [], h, _ => absurd rfl h
 | [x], _, h => by
  rw [Lib.join_one]
  have hx := idx_miss x (h x (List.mem_singleton.2 rfl))
  cases Lib.count x [32] with
  | zero => rfl
  | succ k =>
   unfold Lib.splitK
   rw [hx, if_pos (by rfl)]
 | x :: y :: r, _, h => by
  have ih := split_join (y :: r) (by simp) (fun z hz => h z (List.mem_cons_of_mem _ hz))
  have hx := h x (List.mem_cons_self ..)
  have e : Lib.join (x :: y :: r) [32] = x ++ 32 :: Lib.join (y :: r) [32] := by
   rw [Lib.join_cons, Lib.join_cons]
   simp [Lib.joinTail]
  rw [e]
  have hi := idx_hit x (Lib.join (y :: r) [32]) hx
  have hc := Lib.count_hit (s := x ++ 32 :: Lib.join (y :: r) [32]) (sub := [32]) (by simp) hi
  have hd : (x ++ 32 :: Lib.join (y :: r) [32]).drop (x.length + 1) = Lib.join (y :: r) [32] := by
   rw [List.drop_append, List.drop_eq_nil_of_le (by omega), List.nil_append, show x.length + 1 - x.length = 1 by omega]
   rfl
  rw [show x.length + [(32 : UInt8)].length = x.length + 1 from rfl, hd] at hc
  rw [hc, Nat.add_comm]
  unfold Lib.splitK
  rw [hi, if_neg (by simp)]
  have e2 : ((x.length : Nat) : Int).toNat = x.length := Int.toNat_natCast _
  rw [e2, show x.length + [(32 : UInt8)].length = x.length + 1 from rfl, hd, ih, Nat.add_zero, List.take_append_of_le_length (Nat.le_refl _), List.take_length]
theorem map_data_inj : ∀ a b : List ByteArray, a.map (·.data.toList) = b.map (·.data.toList) → a = b
 | [], [], _ => rfl
 | [], y :: b, h => by simp at h
 | x :: a, [], h => by simp at h
 | x :: a, y :: b, h => by
  rw [List.map_cons, List.map_cons] at h
  obtain ⟨h1, h2⟩ := List.cons.inj h
  rw [map_data_inj a b h2]
  congr 1
  apply ByteArray.ext
  exact Array.ext' h1
theorem splitW_join (ws : List ByteArray) (h0 : ws ≠ []) (h : ∀ x ∈ ws, ¬ (32 : UInt8) ∈ x.data.toList) : splitW (mjoin ws) = ws := by
 apply map_data_inj
 unfold splitW
 rw [Lib.splitB_data]
 refine split_join (ws.map (·.data.toList)) (by simpa using h0) ?_
 intro x hx
 obtain ⟨b, hb, rfl⟩ := List.mem_map.1 hx
 exact h b hb
theorem mfGo_ttx : ∀ (l acc : List S74), l.all tvv = true → acc.length + l.length ≤ 24 → mfGo (l.map ttx) acc = some (acc ++ l)
 | [], acc, _, _ => by simp [mfGo]
 | t :: l, acc, h, hl => by
  rw [List.all_cons, Bool.and_eq_true] at h
  rw [List.length_cons] at hl
  rw [List.map_cons]
  simp only [mfGo]
  rw [tf_ttx h.1, if_neg (by simp), if_neg (by omega), mfGo_ttx l _ h.2 (by rw [List.length_append]; simp; omega), List.append_assoc]
  rfl
def sylF (a0 a1 : Int) (b1 : Bool) : Int := (impl_HexSyllable.f a0 a1 b1).getD 0
theorem syls_f (a0 a1 : Int) (b1 : Bool) (k : Nat) (hk : 7 ≤ k) : spec_HexSyllable.f k a0 a1 b1 = some (sylF a0 a1 b1) := by
 obtain ⟨s, h1, h2, _⟩ := syl_same a0 a1 b1 (k - 7)
 rw [show k - 7 + 7 = k by omega] at h1
 unfold sylF
 rw [h1, h2]
 rfl
theorem syli_f (a0 a1 : Int) (b1 : Bool) : impl_HexSyllable.f a0 a1 b1 = some (sylF a0 a1 b1) := by
 obtain ⟨s, h1, h2, _⟩ := syl_same a0 a1 b1 0
 unfold sylF
 rw [h2]
 rfl
/-- The steps fit the tones. -/
def SG : List S74 → List Int → Bool
 | t :: l, x :: s => if sylF x t.f0 t.f1 < 0 then false else SG l s
 | _, _ => true
theorem soi_l0 (l : List S74) (s : List Int) (hs : s.length = l.length) (hb : l.length < 4611686018427387904) : ∀ (d i k : Nat), i + d = l.length → d < k → impl_SingOk.l0 k s l (l.length : Int) (i : Int) = some (SG (l.drop i) (s.drop i)) := by
 intro d
 induction d with
 | zero =>
  intro i k hi hk
  obtain ⟨k, rfl⟩ : ∃ m, k = m + 1 := ⟨k - 1, by omega⟩
  simp only [impl_SingOk.l0]
  rw [if_neg (by omega), List.drop_eq_nil_of_le (by omega)]
  simp [SG]
 | succ d ih =>
  intro i k hi hk
  obtain ⟨k, rfl⟩ : ∃ m, k = m + 1 := ⟨k - 1, by omega⟩
  have hx : i < l.length := by omega
  have hy : i < s.length := by omega
  simp only [impl_SingOk.l0]
  rw [if_pos (by omega), if_pos (by omega), if_pos (by omega), if_pos (by omega), rdt_at l i hx, rd_at s i hy, syli_f, Option.bind_some, List.drop_eq_getElem_cons hx, List.drop_eq_getElem_cons hy]
  unfold SG
  by_cases h : sylF s[i] l[i].f0 l[i].f1 < 0
  ·rw [if_pos h, if_pos h]
  ·rw [if_neg h, if_neg h, w1 (by omega)]
   exact ih (i + 1) k (by omega) (by omega)
def SO (l : List S74) (s : List Int) : Bool := MV l && (decide (s.length = l.length) && SG l s)
theorem soi_f (l : List S74) (s : List Int) (k : Nat) (hk : 27 ≤ k) : impl_SingOk.f k l s = some (SO l s) := by
 unfold impl_SingOk.f SO
 rw [mvi_f l k (by omega), Option.bind_some]
 obtain ⟨k, rfl⟩ : ∃ m, k = m + 1 := ⟨k - 1, by omega⟩
 cases hM : MV l with
 | false => rfl
 | true =>
  have hl : l.length ≤ 24 := by
   unfold MV at hM
   rw [Bool.and_eq_true] at hM
   exact of_decide_eq_true hM.1
  rw [if_pos rfl, Bool.true_and]
  rw [impl_SingOk.j0]
  by_cases h : s.length = l.length
  ·rw [if_neg (by simp; omega), decide_eq_true h, Bool.true_and]
   simpa using soi_l0 l s h (by omega) l.length 0 k (by omega) (by omega)
  ·rw [if_pos (by simp; omega), decide_eq_false h, Bool.false_and]
theorem getD_at {α : Type} (l : List α) (i : Nat) (h : i < l.length) (d : α) : l.getD i d = l[i] := by
 rw [List.getD_eq_getElem?_getD, List.getElem?_eq_getElem h, Option.getD_some]
theorem syl_out (s : Nat) (hs : s ≤ 14) (a : Int) (b : Bool) (h : ¬ (0 ≤ a ∧ a ≤ 20)) : sylOf s a b = -1 := by
 unfold sylOf
 have e : ∀ i : Nat, i < 6 → ((s : Int) + (i : Int) == a && (softAt s i == b)) = false := by
  intro i hi
  have : ((s : Int) + (i : Int) == a) = false := by
   rw [beq_eq_false_iff_ne]
   omega
  rw [this, Bool.false_and]
 rw [sylGo_step, e 0 (by omega), if_neg (by decide), sylGo_step, e 1 (by omega), if_neg (by decide), sylGo_step, e 2 (by omega), if_neg (by decide), sylGo_step, e 3 (by omega), if_neg (by decide), sylGo_step, e 4 (by omega), if_neg (by decide), sylGo_step, e 5 (by omega), if_neg (by decide)]
 rfl
theorem hexAll_le : ∀ s ∈ hexAll.take 7, s ≤ 14 := by decide
theorem hexOf_out (a : Int) (b : Bool) (h : ¬ (0 ≤ a ∧ a ≤ 20)) : hexOf a b 7 = [] := by
 unfold hexOf
 rw [List.map_eq_nil_iff, List.filter_eq_nil_iff]
 intro s hs
 rw [syl_out s (hexAll_le s hs) a b h]
 decide
theorem hexOf_mem (a : Int) (b : Bool) (x : Int) (h : x ∈ hexOf a b 7) : 0 ≤ x ∧ x ≤ 14 := by
 unfold hexOf at h
 obtain ⟨s, hs, rfl⟩ := List.mem_map.1 h
 have := hexAll_le s (List.mem_filter.1 hs).1
 omega
/-- a hexachord is in a tone's row iff the tone has a syllable there -/
theorem mem_hex (a : Int) (b : Bool) (x : Int) : x ∈ hexOf a b 7 ↔ 0 ≤ sylF x a b := by
 by_cases h : 0 ≤ x ∧ x ≤ 14 ∧ 0 ≤ a ∧ a ≤ 20
 ·obtain ⟨n, rfl⟩ := Int.eq_ofNat_of_zero_le h.1
  obtain ⟨m, rfl⟩ := Int.eq_ofNat_of_zero_le h.2.2.1
  have key : ∀ b : Bool, ∀ n : Nat, n < 15 → ∀ m : Nat, m < 21 → (decide ((n : Int) ∈ hexOf (m : Int) b 7) == decide (0 ≤ (impl_HexSyllable.f (n : Int) (m : Int) b).getD 0)) = true := by decide +kernel
  have k := beq_iff_eq.mp (key b n (by omega) m (by omega))
  unfold sylF
  constructor
  ·intro hx
   rw [decide_eq_true hx] at k
   exact of_decide_eq_true k.symm
  ·intro hx
   rw [decide_eq_true hx] at k
   exact of_decide_eq_true k
 ·constructor
  ·intro hx
   have h1 := hexOf_mem a b x hx
   by_cases ha : 0 ≤ a ∧ a ≤ 20
   ·omega
   ·rw [hexOf_out a b ha] at hx
    exact absurd hx (List.not_mem_nil)
  ·intro hx
   unfold sylF at hx
   rw [sylimpl_no x a b (by omega)] at hx
   exact absurd hx (by decide)
theorem hexOf_len3 (a : Int) (b : Bool) : (hexOf a b 7).length ≤ 3 := by
 by_cases h : 0 ≤ a ∧ a ≤ 20
 ·obtain ⟨m, rfl⟩ := Int.eq_ofNat_of_zero_le h.1
  have key : ∀ b : Bool, ∀ m : Nat, m < 21 → (hexOf (m : Int) b 7).length ≤ 3 := by decide +kernel
  exact key b m (by omega)
 ·rw [hexOf_out a b h]
  simp
theorem hexOf_filter (a : Int) (b : Bool) : ((List.range 21).filter (fun j : Nat => decide ((j : Int) ∈ hexOf a b 7))).map (fun j : Nat => (j : Int)) = hexOf a b 7 := by
 by_cases h : 0 ≤ a ∧ a ≤ 20
 ·obtain ⟨m, rfl⟩ := Int.eq_ofNat_of_zero_le h.1
  have key : ∀ b : Bool, ∀ m : Nat, m < 21 → ((List.range 21).filter (fun j : Nat => decide ((j : Int) ∈ hexOf (m : Int) b 7))).map (fun j : Nat => (j : Int)) = hexOf (m : Int) b 7 := by decide +kernel
  exact key b m (by omega)
 ·rw [hexOf_out a b h]
  simp
theorem hexalls_l0 (a : Int) (b : Bool) : ∀ (d i : Nat) (acc : List Int), i + d = 21 → acc.length ≤ i → ∀ k, d + 20 ≤ k → spec_HexAll.l0 k acc (i : Int) a b = some (acc ++ (((List.range 21).drop i).filter (fun j : Nat => decide ((j : Int) ∈ hexOf a b 7))).map (fun j : Nat => (j : Int))) := by
 intro d
 induction d with
 | zero =>
  intro i acc hi ha k hk
  obtain ⟨k, rfl⟩ : ∃ m, k = m + 1 := ⟨k - 1, by omega⟩
  simp only [spec_HexAll.l0]
  rw [if_neg (by omega), List.drop_eq_nil_of_le (by rw [List.length_range]; omega)]
  simp
 | succ d ih =>
  intro i acc hi ha k hk
  obtain ⟨k, rfl⟩ : ∃ m, k = m + 1 := ⟨k - 1, by omega⟩
  have hx : i < (List.range 21).length := by rw [List.length_range]; omega
  simp only [spec_HexAll.l0]
  rw [if_pos (by omega), syls_f _ _ _ k (by omega), Option.bind_some, List.drop_eq_getElem_cons hx, List.getElem_range, List.filter_cons]
  by_cases h : sylF (i : Int) a b ≥ 0
  ·rw [if_pos h, if_pos (show acc.length < 17592186044416 by omega), if_pos (show decide ((i : Int) ∈ hexOf a b 7) = true by rw [decide_eq_true_eq]; exact (mem_hex a b (i : Int)).2 h), w1 (by omega), ih (i + 1) (acc ++ [(i : Int)]) (by omega) (by simp; omega) k (by omega)]
   simp
  ·rw [if_neg h, if_neg (show ¬ decide ((i : Int) ∈ hexOf a b 7) = true by rw [decide_eq_true_eq]; exact fun hm => h ((mem_hex a b (i : Int)).1 hm)), w1 (by omega)]
   exact ih (i + 1) acc (by omega) (by omega) k (by omega)
theorem hexalls_f (a : Int) (b : Bool) (k : Nat) (hk : 41 ≤ k) : spec_HexAll.f k a b = some (hexOf a b 7) := by
 unfold spec_HexAll.f
 have := hexalls_l0 a b 21 0 [] (by omega) (Nat.le_refl _) k (by omega)
 rw [List.drop_zero, hexOf_filter, List.nil_append] at this
 exact this
/-- the number of lists -/
def prodL : List (List Int) → Int
 | [] => 1
 | h :: hs => (h.length : Int) * prodL hs
theorem prodL_nonneg : ∀ hs, 0 ≤ prodL hs
 | [] => by decide
 | h :: hs => Int.mul_nonneg (by omega) (prodL_nonneg hs)
theorem prodL_pos : ∀ hs : List (List Int), 0 < prodL hs ↔ Full hs
 | [] => ⟨fun _ => fun x hx => absurd hx (List.not_mem_nil), fun _ => by decide⟩
 | h :: hs => by
  have ih := prodL_pos hs
  have hn := prodL_nonneg hs
  constructor
  ·intro hp
   have h1 : h ≠ [] := by
    rintro rfl
    simp [prodL] at hp
   have h2 : 0 < prodL hs := by
    rcases Int.lt_or_eq_of_le hn with h3 | h3
    ·exact h3
    ·unfold prodL at hp
     rw [← h3] at hp
     simp at hp
   intro x hx
   rcases List.mem_cons.1 hx with rfl | hx
   ·exact h1
   ·exact ih.1 h2 x hx
  ·intro f
   unfold prodL
   refine Int.mul_pos ?_ (ih.2 f.tail)
   have := List.length_pos_iff.2 (f h (List.mem_cons_self ..))
   omega
theorem pow3 : ∀ n : Nat, n ≤ 24 → (3 : Int) ^ n ≤ 282429536481 := by decide +kernel
theorem many_v (l : List S74) (hl : l.length ≤ 24) : ∀ (d i k : Nat) (x : Int), i + d = l.length → d < k → 0 ≤ x → x ≤ 3 ^ i → impl_SingMany.l0 k x l (l.length : Int) (i : Int) = some (x * prodL (rowsOf (l.drop i))) := by
 intro d
 induction d with
 | zero =>
  intro i k x hi hk h0 h1
  obtain ⟨k, rfl⟩ : ∃ m, k = m + 1 := ⟨k - 1, by omega⟩
  simp only [impl_SingMany.l0]
  rw [if_neg (by omega), List.drop_eq_nil_of_le (by omega)]
  simp [rowsOf, prodL]
 | succ d ih =>
  intro i k x hi hk h0 h1
  obtain ⟨k, rfl⟩ : ∃ m, k = m + 1 := ⟨k - 1, by omega⟩
  have hx : i < l.length := by omega
  have h3 : ((rowOf l[i]).length : Int) ≤ 3 := by have := hexOf_len3 l[i].f0 l[i].f1; unfold rowOf; omega
  have e1 : x * ((rowOf l[i]).length : Int) ≤ 3 ^ (i + 1) := by
   rw [Int.pow_succ]
   exact Int.mul_le_mul h1 h3 (by omega) (Int.pow_nonneg (by decide))
  have e2 : 0 ≤ x * ((rowOf l[i]).length : Int) := Int.mul_nonneg h0 (by omega)
  have e3 := pow3 (i + 1) (by omega)
  simp only [impl_SingMany.l0]
  rw [if_pos (by omega), if_pos (by omega), if_pos (by omega), rdt_at l i hx, show impl_HexAll.f l[i].f0 l[i].f1 = some (rowOf l[i]) from rfl, Option.bind_some, w1 (by omega), w0 (i := x * ((rowOf l[i]).length : Int)) (by omega) (by omega), ih (i + 1) k _ (by omega) (by omega) e2 e1, List.drop_eq_getElem_cons hx]
  show some _ = some (x * (((rowOf l[i]).length : Int) * prodL (rowsOf (l.drop (i + 1)))))
  rw [Int.mul_assoc]
def SM (l : List S74) : Int := if MV l = true then prodL (rowsOf l) else -1
theorem MV_len {l : List S74} (h : MV l = true) : l.length ≤ 24 := by
 unfold MV at h
 rw [Bool.and_eq_true] at h
 exact of_decide_eq_true h.1
theorem many_f (l : List S74) (k : Nat) (hk : 25 ≤ k) : impl_SingMany.f k l = some (SM l) := by
 unfold impl_SingMany.f SM
 rw [mvi_f l k hk, Option.bind_some]
 by_cases h : MV l = true
 ·have hl := MV_len h
  rw [if_pos h, if_pos h]
  have := many_v l hl l.length 0 k 1 (by omega) (by omega) (by decide) (by decide)
  rw [List.drop_zero, Int.one_mul] at this
  exact this
 ·rw [if_neg h, if_neg h]
/-- a melody all of whose tones have a hexachord -/
def SB (l : List S74) : Bool := MV l && decide (0 < prodL (rowsOf l))
theorem SB_iff (l : List S74) : SB l = true ↔ MV l = true ∧ Full (rowsOf l) := by
 unfold SB
 rw [Bool.and_eq_true, decide_eq_true_eq, prodL_pos]
def BST (l : List S74) : List Int × Bool := if SB l = true then (best none (rowsOf l), true) else (([] : List Int), false)
theorem besti_f (l : List S74) (k : Nat) (hk : 25 ≤ k) : impl_SingBest.f k l = some (BST l) := by
 unfold impl_SingBest.f BST SB
 rw [many_f l k hk, Option.bind_some]
 unfold SM
 have hn := prodL_nonneg (rowsOf l)
 cases hM : MV l with
 | false => rfl
 | true =>
  rw [if_pos rfl, Bool.true_and]
  by_cases h : 0 < prodL (rowsOf l)
  ·rw [if_neg (by omega), if_pos (by rw [decide_eq_true_eq]; exact h)]
  ·rw [if_pos (by omega), if_neg (by rw [decide_eq_true_eq]; exact h)]
theorem rdll_at (xs : List (List Int)) (i : Nat) (h : i < xs.length) : rd_L8 xs (i : Int) = xs[i] := by
 simp [rd_L8, List.getD_eq_getElem?_getD, h]
theorem rows_len (m : List S74) : (rowsOf m).length = m.length := by simp [rowsOf]
theorem rows_at (m : List S74) (i : Nat) (h : i < m.length) : (rowsOf m).getD i [] = rowOf m[i] := by
 rw [getD_at _ _ (by rw [rows_len]; exact h)]
 simp [rowsOf]
def ent (H : List (List Int)) (r : Nat) (s : Nat) : Int := if (s : Int) ∈ H.getD r [] then lst (s : Int) (H.drop (r + 1)) else -1
def tabRow (H : List (List Int)) (r : Nat) : List Int := (List.range 21).map (ent H r)
theorem tabRow_len (H : List (List Int)) (r : Nat) : (tabRow H r).length = 21 := by simp [tabRow]
theorem tabRow_at (H : List (List Int)) (r s : Nat) (h : s < (tabRow H r).length) : (tabRow H r)[s] = ent H r s := by simp [tabRow]
def tab (H : List (List Int)) (n i : Nat) : List (List Int) := (List.range n).map (fun r => if r < i then [] else tabRow H r)
theorem tab_len (H : List (List Int)) (n i : Nat) : (tab H n i).length = n := by simp [tab]
theorem tab_at (H : List (List Int)) (n i r : Nat) (h : r < (tab H n i).length) : (tab H n i)[r] = if r < i then [] else tabRow H r := by simp [tab]
theorem tab_set (H : List (List Int)) (n i : Nat) (hi : i < n) : (tab H n (i + 1)).set i (tabRow H i) = tab H n i := by
 apply List.ext_getElem (by rw [List.length_set, tab_len, tab_len])
 intro r h1 h2
 rw [List.getElem_set, tab_at, tab_at]
 by_cases e : i = r
 ·subst e
  rw [if_pos rfl, if_neg (by omega)]
 ·rw [if_neg e]
  by_cases h : r < i
  ·rw [if_pos h, if_pos (by omega)]
  ·rw [if_neg h, if_neg (by omega)]
def acc (h : List Int) (hs : List (List Int)) (s j : Nat) : Int := (((List.range j).filter (fun y : Nat => decide ((y : Int) ∈ h))).map (fun y : Nat => lst (y : Int) hs + chg (s : Int) (y : Int))).foldl upd (-1)
theorem acc_step (h : List Int) (hs : List (List Int)) (s j : Nat) : acc h hs s (j + 1) = if (j : Int) ∈ h then upd (acc h hs s j) (lst (j : Int) hs + chg (s : Int) (j : Int)) else acc h hs s j := by
 unfold acc
 rw [List.range_succ, List.filter_append, List.map_append, List.foldl_append]
 by_cases hj : (j : Int) ∈ h
 ·rw [if_pos hj, List.filter_cons, if_pos (by rw [decide_eq_true_eq]; exact hj)]
  rfl
 ·rw [if_neg hj, List.filter_cons, if_neg (by rw [decide_eq_true_eq]; exact hj)]
  rfl
theorem acc_all (a : Int) (b : Bool) (hs : List (List Int)) (s : Nat) : acc (hexOf a b 7) hs s 21 = lst (s : Int) (hexOf a b 7 :: hs) := by
 have e : lst (s : Int) (hexOf a b 7 :: hs) = ((hexOf a b 7).map (fun y => lst y hs + chg (s : Int) y)).foldl upd (-1) := ahd_eq _ _ _
 rw [e]
 conv => rhs; rw [← hexOf_filter a b]
 rw [List.map_map]
 rfl
theorem acc_bd (h : List Int) (hs : List (List Int)) (f : Full hs) (s : Nat) : ∀ j, -1 ≤ acc h hs s j ∧ acc h hs s j ≤ hs.length + 1
 | 0 => ⟨by simp [acc], by simp [acc]; omega⟩
 | j + 1 => by
  have ih := acc_bd h hs f s j
  rw [acc_step]
  split
  ·have h1 := lst_bd hs f (j : Int)
   have h2 := lst_le_len hs f (j : Int)
   have h3 := chg_bd (s : Int) (j : Int)
   unfold upd
   split
   ·omega
   ·split <;> omega
  ·exact ih
theorem fl2 (m : List S74) (N : Int) (T : List (List Int)) (P : List Int) (i s : Nat) (R : List (List Int)) (h : List Int) (hs : List (List Int)) (f : Full hs) (hsl : hs.length ≤ 24) (hi : i + 1 < T.length) (hT : T[i + 1] = (List.range 21).map (fun y : Nat => if (y : Int) ∈ h then lst (y : Int) hs else -1)) (hP : P.length = 21) (hs21 : s < 21) (hil : T.length ≤ 100) (K0 : Nat)
  (hc : ∀ k, K0 ≤ k → spec_l2Fewest.l1 k m N (T.set i (P.set s (acc h hs s 21))) (i : Int) ((s + 1 : Nat) : Int) = some R) :
  ∀ d j, j + d = 21 → ∀ k, K0 + d + 1 ≤ k → spec_l2Fewest.l2 k m N (T.set i (P.set s (acc h hs s j))) (i : Int) (s : Int) (j : Int) = some R := by
 intro d
 induction d with
 | zero =>
  intro j hj k hk
  obtain ⟨k, rfl⟩ : ∃ m, k = m + 1 := ⟨k - 1, by omega⟩
  obtain rfl : j = 21 := by omega
  simp only [spec_l2Fewest.l2]
  rw [if_neg (by omega), w1 (by omega)]
  exact hc k (by omega)
 | succ d ih =>
  intro j hj k hk
  obtain ⟨k, rfl⟩ : ∃ m, k = m + 1 := ⟨k - 1, by omega⟩
  have hTl : (T.set i (P.set s (acc h hs s j))).length = T.length := List.length_set
  have e1 : rd_L8 (T.set i (P.set s (acc h hs s j))) ((i + 1 : Nat) : Int) = (List.range 21).map (fun y : Nat => if (y : Int) ∈ h then lst (y : Int) hs else -1) := by
   rw [rdll_at _ _ (by rw [hTl]; exact hi), List.getElem_set_ne (by omega), hT]
  have e2 : rd_L8 (T.set i (P.set s (acc h hs s j))) (i : Int) = P.set s (acc h hs s j) := by
   rw [rdll_at _ _ (by rw [hTl]; omega), List.getElem_set_self]
  have e3 : rd ((List.range 21).map (fun y : Nat => if (y : Int) ∈ h then lst (y : Int) hs else -1)) (j : Int) = if (j : Int) ∈ h then lst (j : Int) hs else -1 := by
   rw [rd_at _ j (by simp; omega)]
   simp
  have e4 : rd (P.set s (acc h hs s j)) (s : Int) = acc h hs s j := by
   rw [rd_at _ s (by rw [List.length_set, hP]; exact hs21), List.getElem_set_self]
  have e5 : ∀ v : Int, (T.set i (P.set s (acc h hs s j))).set (i : Int).toNat ((P.set s (acc h hs s j)).set (s : Int).toNat v) = T.set i (P.set s v) := by
   intro v
   rw [Int.toNat_natCast, Int.toNat_natCast, List.set_set, List.set_set]
  have ihj := ih (j + 1) (by omega) k (by omega)
  rw [acc_step] at ihj
  have hlen : (((List.range 21).map (fun y : Nat => if (y : Int) ∈ h then lst (y : Int) hs else -1)).length : Int) = 21 := by simp
  simp only [spec_l2Fewest.l2]
  rw [if_pos (show (j : Int) ≤ 20 by omega), w1 (i := i) (by omega), if_pos (show (0 : Int) ≤ ((i + 1 : Nat) : Int) by omega), if_pos (show ((i + 1 : Nat) : Int) < ((T.set i (P.set s (acc h hs s j))).length : Int) by rw [hTl]; omega), if_pos (show (0 : Int) ≤ (j : Int) by omega), e1, if_pos (show (j : Int) < _ by rw [hlen]; omega), e3, w1 (i := j) (by omega)]
  by_cases hm : (j : Int) ∈ h
  ·rw [if_pos hm] at ihj
   rw [if_pos hm]
   have h1 := lst_bd hs f (j : Int)
   have h2 := lst_le_len hs f (j : Int)
   have h3 := acc_bd h hs f s j
   rw [if_neg (show ¬ lst (j : Int) hs < 0 by omega)]
   have gi : (0 : Int) ≤ (i : Int) := by omega
   have gi2 : (i : Int) < ((T.set i (P.set s (acc h hs s j))).length : Int) := by rw [hTl]; omega
   have gs : (0 : Int) ≤ (s : Int) := by omega
   have gs2 : (s : Int) < ((P.set s (acc h hs s j)).length : Int) := by rw [List.length_set, hP]; omega
   by_cases hjs : (j : Int) = (s : Int)
   ·rw [if_pos hjs, if_pos gi, if_pos gi2, if_pos gs, e2, if_pos gs2, e4, e5]
    have hch : lst (j : Int) hs + chg (s : Int) (j : Int) = lst (j : Int) hs := by unfold chg; rw [if_pos hjs.symm]; omega
    rw [hch] at ihj
    unfold upd at ihj
    by_cases ha : acc h hs s j < 0
    ·rw [if_pos ha] at ihj ⊢
     exact ihj
    ·rw [if_neg ha] at ihj ⊢
     by_cases hb : lst (j : Int) hs < acc h hs s j
     ·rw [if_pos hb] at ihj ⊢
      exact ihj
     ·rw [if_neg hb] at ihj ⊢
      exact ihj
   ·rw [if_neg hjs, if_pos gi, if_pos gi2, if_pos gs, e2, if_pos gs2, e4, w0 (i := lst (j : Int) hs + 1) (by omega) (by omega), e5]
    have hch : lst (j : Int) hs + chg (s : Int) (j : Int) = lst (j : Int) hs + 1 := by unfold chg; rw [if_neg (fun e => hjs e.symm)]
    rw [hch] at ihj
    unfold upd at ihj
    by_cases ha : acc h hs s j < 0
    ·rw [if_pos ha] at ihj ⊢
     exact ihj
    ·rw [if_neg ha] at ihj ⊢
     by_cases hb : lst (j : Int) hs + 1 < acc h hs s j
     ·rw [if_pos hb] at ihj ⊢
      exact ihj
     ·rw [if_neg hb] at ihj ⊢
      exact ihj
  ·rw [if_neg hm] at ihj
   rw [if_neg hm, if_pos (by decide)]
   exact ihj
def prow (H : List (List Int)) (i s : Nat) : List Int := (tabRow H i).take s ++ List.replicate (21 - s) 0
theorem prow_len (H : List (List Int)) (i s : Nat) (h : s ≤ 21) : (prow H i s).length = 21 := by
 unfold prow
 rw [List.length_append, List.length_take, tabRow_len, List.length_replicate]
 omega
theorem prow_step (H : List (List Int)) (i s : Nat) (h : s < 21) : (prow H i s).set s (ent H i s) = prow H i (s + 1) := by
 have hs : s < (tabRow H i).length := by rw [tabRow_len]; exact h
 unfold prow
 rw [List.set_append_right _ _ (by rw [List.length_take]; omega), List.length_take, Nat.min_eq_left (by omega), Nat.sub_self, show 21 - s = (21 - (s + 1)) + 1 by omega, List.replicate_succ, List.set_cons_zero, List.take_succ_eq_append_getElem hs, tabRow_at, List.append_assoc]
 rfl
theorem prow_all (H : List (List Int)) (i : Nat) : prow H i 21 = tabRow H i := by
 unfold prow
 rw [List.take_of_length_le (by rw [tabRow_len]; exact Nat.le_refl _)]
 simp
theorem fl1 (m : List S74) (hm : m.length ≤ 24) (fu : Full (rowsOf m)) (i : Nat) (hi : i < m.length) (R : List (List Int)) (K0 : Nat) (hK : 10 ≤ K0)
  (hc : ∀ k, K0 ≤ k → spec_l2Fewest.l0 k m (m.length : Int) (tab (rowsOf m) m.length i) ((i : Int) - 1) = some R) :
  ∀ d s, s + d = 21 → ∀ k, K0 + 24 * d + 1 ≤ k → spec_l2Fewest.l1 k m (m.length : Int) ((tab (rowsOf m) m.length (i + 1)).set i (prow (rowsOf m) i s)) (i : Int) (s : Int) = some R := by
 intro d
 induction d with
 | zero =>
  intro s hs k hk
  obtain ⟨k, rfl⟩ : ∃ m, k = m + 1 := ⟨k - 1, by omega⟩
  obtain rfl : s = 21 := by omega
  simp only [spec_l2Fewest.l1]
  rw [if_neg (by omega), w0 (i := (i : Int) - 1) (by omega) (by omega), prow_all, tab_set _ _ _ hi]
  exact hc k (by omega)
 | succ d ih =>
  intro s hs k hk
  obtain ⟨k, rfl⟩ : ∃ m, k = m + 1 := ⟨k - 1, by omega⟩
  have hTl : ∀ P : List Int, ((tab (rowsOf m) m.length (i + 1)).set i P).length = m.length := fun P => by rw [List.length_set, tab_len]
  have e2 : ∀ P : List Int, rd_L8 ((tab (rowsOf m) m.length (i + 1)).set i P) (i : Int) = P := fun P => by
   rw [rdll_at _ _ (by rw [hTl]; exact hi), List.getElem_set_self]
  have hpl := prow_len (rowsOf m) i s (by omega)
  have e5 : ∀ v : Int, ((tab (rowsOf m) m.length (i + 1)).set i (prow (rowsOf m) i s)).set (i : Int).toNat ((prow (rowsOf m) i s).set (s : Int).toNat v) = (tab (rowsOf m) m.length (i + 1)).set i ((prow (rowsOf m) i s).set s v) := by
   intro v
   rw [Int.toNat_natCast, Int.toNat_natCast, List.set_set]
  have e6 : ∀ v : Int, ((tab (rowsOf m) m.length (i + 1)).set i ((prow (rowsOf m) i s).set s (-1))).set (i : Int).toNat (((prow (rowsOf m) i s).set s (-1)).set (s : Int).toNat v) = (tab (rowsOf m) m.length (i + 1)).set i ((prow (rowsOf m) i s).set s v) := by
   intro v
   rw [Int.toNat_natCast, Int.toNat_natCast, List.set_set, List.set_set]
  have hstep := prow_step (rowsOf m) i s (by omega)
  have ihs := fun k hk => ih (s + 1) (by omega) k hk
  rw [← hstep] at ihs
  have hmem : (s : Int) ∈ (rowsOf m).getD i [] ↔ 0 ≤ sylF (s : Int) m[i].f0 m[i].f1 := by
   rw [rows_at m i hi]
   exact mem_hex m[i].f0 m[i].f1 (s : Int)
  simp only [spec_l2Fewest.l1]
  rw [if_pos (show (s : Int) ≤ 20 by omega), if_pos (show (0 : Int) ≤ (i : Int) by omega), if_pos (show (i : Int) < _ by rw [hTl]; omega), if_pos (show (0 : Int) ≤ (s : Int) by omega), e2, if_pos (show (s : Int) < ((prow (rowsOf m) i s).length : Int) by rw [hpl]; omega), e5, Option.bind_some, if_pos (show (i : Int) < (m.length : Int) by omega), rdt_at m i hi, syls_f _ _ _ k (by omega), Option.bind_some, w1 (by omega), w0 (i := (m.length : Int) - 1) (by omega) (by omega)]
  by_cases hneg : sylF (s : Int) m[i].f0 m[i].f1 < 0
  ·rw [if_pos hneg]
   have he : ent (rowsOf m) i s = -1 := by unfold ent; rw [if_neg (fun hx => by have := hmem.1 hx; omega)]
   rw [he] at ihs
   exact ihs k (by omega)
  ·rw [if_neg hneg]
   have hin : (s : Int) ∈ (rowsOf m).getD i [] := hmem.2 (by omega)
   by_cases hlast : (i : Int) = (m.length : Int) - 1
   ·have he : ent (rowsOf m) i s = 0 := by
     unfold ent
     rw [if_pos hin, List.drop_eq_nil_of_le (by rw [rows_len]; omega)]
     rfl
    rw [if_pos hlast, e2, if_pos (show (s : Int) < (((prow (rowsOf m) i s).set s (-1)).length : Int) by rw [List.length_set, hpl]; omega), e6]
    rw [he] at ihs
    exact ihs k (by omega)
   ·have hi1 : i + 1 < m.length := by omega
    have hdr : (rowsOf m).drop (i + 1) = rowOf m[i + 1] :: (rowsOf m).drop (i + 2) := by
     rw [drop_cons (rowsOf m) (i + 1) (by rw [rows_len]; exact hi1), rows_at m (i + 1) hi1]
    have he : ent (rowsOf m) i s = acc (rowOf m[i + 1]) ((rowsOf m).drop (i + 2)) s 21 := by
     unfold ent
     rw [if_pos hin, hdr]
     exact (acc_all m[i + 1].f0 m[i + 1].f1 _ s).symm
    rw [if_neg hlast]
    rw [he] at ihs
    have hfd : Full ((rowsOf m).drop (i + 2)) := full_drop fu (i + 2)
    have := fl2 m (m.length : Int) (tab (rowsOf m) m.length (i + 1)) (prow (rowsOf m) i s) i s R (rowOf m[i + 1]) ((rowsOf m).drop (i + 2)) hfd (by rw [List.length_drop, rows_len]; omega) (by rw [tab_len]; exact hi1) (by
     rw [tab_at, if_neg (by omega)]
     unfold tabRow
     apply List.map_congr_left
     intro y _
     unfold ent
     rw [rows_at m (i + 1) hi1]) hpl (by omega) (by rw [tab_len]; omega) (K0 + 24 * d + 1) (fun k hk => ihs k hk) 21 0 (by omega) k (by omega)
    exact this
theorem fl0 (m : List S74) (hm : m.length ≤ 24) (fu : Full (rowsOf m)) : ∀ i, i ≤ m.length → ∀ k, 600 * i + 11 ≤ k → spec_l2Fewest.l0 k m (m.length : Int) (tab (rowsOf m) m.length i) ((i : Int) - 1) = some (tab (rowsOf m) m.length 0) := by
 intro i
 induction i with
 | zero =>
  intro _ k hk
  obtain ⟨k, rfl⟩ : ∃ m, k = m + 1 := ⟨k - 1, by omega⟩
  simp only [spec_l2Fewest.l0]
  rw [if_neg (by omega)]
 | succ i ih =>
  intro hi k hk
  obtain ⟨k, rfl⟩ : ∃ m, k = m + 1 := ⟨k - 1, by omega⟩
  have e1 : ((i + 1 : Nat) : Int) - 1 = (i : Int) := by omega
  rw [e1]
  simp only [spec_l2Fewest.l0]
  rw [if_pos (show (i : Int) ≥ 0 by omega), if_pos (by decide), if_pos (show (0 : Int) ≤ (i : Int) by omega), if_pos (show (i : Int) < _ by rw [tab_len]; omega), Int.toNat_natCast]
  have := fl1 m hm fu i (by omega) _ (600 * i + 11) (by omega) (fun k hk => ih (by omega) k hk) 21 0 (by omega) k (by omega)
  exact this
theorem few_f (m : List S74) (hm : m.length ≤ 24) (fu : Full (rowsOf m)) (k : Nat) (hk : 600 * m.length + 11 ≤ k) : spec_l2Fewest.f k m = some (tab (rowsOf m) m.length 0) := by
 unfold spec_l2Fewest.f
 rw [if_pos (by omega), if_pos (by omega), Int.toNat_natCast, w0 (i := (m.length : Int) - 1) (by omega) (by omega)]
 have e : List.replicate m.length ([] : List Int) = tab (rowsOf m) m.length m.length := by
  apply List.ext_getElem (by rw [List.length_replicate, tab_len])
  intro r h1 h2
  rw [tab_at, List.getElem_replicate, if_pos (by rw [tab_len] at h2; exact h2)]
 rw [e]
 exact fl0 m hm fu m.length (Nat.le_refl _) k hk
def pk1 (g : Int → Int) (h : List Int) (j : Nat) : Int × Int := pickS g (((List.range j).filter (fun y : Nat => decide ((y : Int) ∈ h))).map (fun y : Nat => (y : Int))) (-1, -1)
theorem pk1_step (g : Int → Int) (h : List Int) (j : Nat) : pk1 g h (j + 1) = if (j : Int) ∈ h then (if (pk1 g h j).2 < 0 ∨ g (j : Int) < (pk1 g h j).2 then ((j : Int), g (j : Int)) else pk1 g h j) else pk1 g h j := by
 unfold pk1
 rw [List.range_succ, List.filter_append, List.map_append]
 by_cases hj : (j : Int) ∈ h
 ·rw [if_pos hj, List.filter_cons, if_pos (show decide ((j : Int) ∈ h) = true by rw [decide_eq_true_eq]; exact hj)]
  exact pickS_snoc g _ _ _
 ·rw [if_neg hj, List.filter_cons, if_neg (show ¬ decide ((j : Int) ∈ h) = true by rw [decide_eq_true_eq]; exact hj)]
  simp
theorem pk1_inv (g : Int → Int) (h : List Int) (hg : ∀ y, 0 ≤ g y ∧ g y ≤ 30) : ∀ j, pk1 g h j = (-1, -1) ∨ (0 ≤ (pk1 g h j).1 ∧ 0 ≤ (pk1 g h j).2 ∧ (pk1 g h j).2 ≤ 30)
 | 0 => .inl rfl
 | j + 1 => by
  have ih := pk1_inv g h hg j
  rw [pk1_step]
  by_cases hj : (j : Int) ∈ h
  ·rw [if_pos hj]
   split
   ·exact .inr ⟨by show 0 ≤ (j : Int); omega, (hg (j : Int)).1, (hg (j : Int)).2⟩
   ·exact ih
  ·rw [if_neg hj]
   exact ih
theorem pk1_all (g : Int → Int) (a : Int) (b : Bool) : pk1 g (hexOf a b 7) 21 = pickS g (hexOf a b 7) (-1, -1) := by
 unfold pk1
 rw [hexOf_filter]
theorem bs2 (m : List S74) (acc : List Int) (T : List (List Int)) (i : Nat) (h : List Int) (hs : List (List Int)) (f : Full hs) (hsl : hs.length ≤ 24) (p : Option Int) (hi : i < T.length) (hil : i ≤ 24) (hT : T[i] = (List.range 21).map (fun y : Nat => if (y : Int) ∈ h then lst (y : Int) hs else -1)) (hacc : acc.length = i) (hp : (i = 0 ∧ p = none) ∨ (0 < i ∧ p = some (acc.getD (i - 1) 0))) (R : List Int × Bool) (K0 : Nat)
  (hc : ∀ k, K0 ≤ k → spec_SingBest.l1 k m (acc ++ [(pk1 (fun y => lst y hs + pre p y) h 21).1]) T ((i + 1 : Nat) : Int) = some R) :
  ∀ d j, j + d = 21 → ∀ k, K0 + 2 * d + 1 ≤ k → spec_SingBest.l2 k m acc T (i : Int) (pk1 (fun y => lst y hs + pre p y) h j).1 (pk1 (fun y => lst y hs + pre p y) h j).2 (j : Int) = some R := by
 intro d
 induction d with
 | zero =>
  intro j hj k hk
  obtain ⟨k, rfl⟩ : ∃ m, k = m + 1 := ⟨k - 1, by omega⟩
  obtain rfl : j = 21 := by omega
  simp only [spec_SingBest.l2]
  rw [if_neg (by omega), if_pos (show acc.length < 17592186044416 by omega), w1 (by omega)]
  exact hc k (by omega)
 | succ d ih =>
  intro j hj k hk
  obtain ⟨k, rfl⟩ : ∃ m, k = m + 1 := ⟨k - 1, by omega⟩
  have hg : ∀ y, 0 ≤ lst y hs + pre p y ∧ lst y hs + pre p y ≤ 30 := fun y => by
   have h1 := lst_bd hs f y
   have h2 := lst_le_len hs f y
   have h3 := pre_bd p y
   omega
  have hinv := pk1_inv (fun y => lst y hs + pre p y) h hg j
  have ihj := fun k hk => ih (j + 1) (by omega) k hk
  rw [pk1_step] at ihj
  obtain ⟨P, hP⟩ : ∃ P, P = pk1 (fun y => lst y hs + pre p y) h j := ⟨_, rfl⟩
  rw [← hP] at ihj hinv ⊢
  have e1 : rd_L8 T (i : Int) = (List.range 21).map (fun y : Nat => if (y : Int) ∈ h then lst (y : Int) hs else -1) := by rw [rdll_at _ _ hi, hT]
  have e3 : rd ((List.range 21).map (fun y : Nat => if (y : Int) ∈ h then lst (y : Int) hs else -1)) (j : Int) = if (j : Int) ∈ h then lst (j : Int) hs else -1 := by
   rw [rd_at _ j (by simp; omega)]
   simp
  have hlen : (((List.range 21).map (fun y : Nat => if (y : Int) ∈ h then lst (y : Int) hs else -1)).length : Int) = 21 := by simp
  simp only [spec_SingBest.l2]
  rw [if_pos (show (j : Int) ≤ 20 by omega), if_pos (show (0 : Int) ≤ (i : Int) by omega), if_pos (show (i : Int) < (T.length : Int) by omega), if_pos (show (0 : Int) ≤ (j : Int) by omega), e1, if_pos (show (j : Int) < _ by rw [hlen]; omega), e3, w1 (i := j) (by omega)]
  by_cases hm : (j : Int) ∈ h
  ·rw [if_pos hm] at ihj
   rw [if_pos hm]
   have h1 := lst_bd hs f (j : Int)
   have h2 := lst_le_len hs f (j : Int)
   rw [if_neg (show ¬ lst (j : Int) hs < 0 by omega)]
   have hcond : ∀ v : Int, (P.2 < 0 ∨ v < P.2) ↔ (P.1 < 0 ∨ v < P.2) := by
    intro v
    rcases hinv with e | ⟨q1, q2, _⟩
    ·rw [e]
    ·constructor
     ·rintro (h | h)
      ·omega
      ·exact .inr h
     ·rintro (h | h)
      ·omega
      ·exact .inr h
   obtain ⟨k, rfl⟩ : ∃ m, k = m + 1 := ⟨k - 1, by omega⟩
   have fin : ∀ v : Int, v = lst (j : Int) hs + pre p (j : Int) → (if P.1 < 0 then spec_SingBest.l2 k m acc T (i : Int) (j : Int) v ((j + 1 : Nat) : Int) else if v < P.2 then spec_SingBest.l2 k m acc T (i : Int) (j : Int) v ((j + 1 : Nat) : Int) else spec_SingBest.l2 k m acc T (i : Int) P.1 P.2 ((j + 1 : Nat) : Int)) = some R := by
    intro v hv
    have q := ihj k (by omega)
    simp only [hcond, ← hv] at q
    by_cases ha : P.1 < 0
    ·rw [if_pos ha]
     rw [if_pos (.inl ha)] at q
     exact q
    ·rw [if_neg ha]
     by_cases hb : v < P.2
     ·rw [if_pos hb]
      rw [if_pos (.inr hb)] at q
      exact q
     ·rw [if_neg hb]
      rw [if_neg (by rintro (x | x); exact ha x; exact hb x)] at q
      exact q
   rcases hp with ⟨hi0, rfl⟩ | ⟨hi0, rfl⟩
   ·rw [if_neg (show ¬ (i : Int) > 0 by omega)]
    simp only [spec_SingBest.j3]
    rw [if_neg (by decide), w1 (i := j) (by omega)]
    exact fin _ (by simp [pre])
   ·have ei : wrap64 ((i : Int) - 1) = ((i - 1 : Nat) : Int) := by rw [w0 (by omega) (by omega)]; omega
    have er : rd acc ((i - 1 : Nat) : Int) = acc.getD (i - 1) 0 := by rw [rd_at _ _ (by omega), getD_at _ _ (by omega)]
    rw [if_pos (show (i : Int) > 0 by omega), ei, if_pos (show (0 : Int) ≤ ((i - 1 : Nat) : Int) by omega), if_pos (show ((i - 1 : Nat) : Int) < (acc.length : Int) by omega), er]
    simp only [spec_SingBest.j3]
    rw [w1 (i := j) (by omega), w0 (i := lst (j : Int) hs + 1) (by omega) (by omega)]
    by_cases he : (j : Int) = acc.getD (i - 1) 0
    ·rw [show ((j : Int) != acc.getD (i - 1) 0) = false from bne_eq_false_iff_eq.mpr he, if_neg (by decide)]
     refine fin _ ?_
     show lst (j : Int) hs = lst (j : Int) hs + chg (acc.getD (i - 1) 0) (j : Int)
     unfold chg
     rw [if_pos he.symm]
     omega
    ·rw [show ((j : Int) != acc.getD (i - 1) 0) = true from bne_iff_ne.mpr he, if_pos rfl]
     refine fin _ ?_
     show lst (j : Int) hs + 1 = lst (j : Int) hs + chg (acc.getD (i - 1) 0) (j : Int)
     unfold chg
     rw [if_neg (fun x => he x.symm)]
  ·rw [if_neg hm] at ihj
   rw [if_neg hm, if_pos (by decide)]
   exact ihj k (by omega)
theorem bs1 (m : List S74) (hm : m.length ≤ 24) (fu : Full (rowsOf m)) : ∀ (d i k : Nat), i + d = m.length → 50 * d + 1 ≤ k → spec_SingBest.l1 k m ((best none (rowsOf m)).take i) (tab (rowsOf m) m.length 0) (i : Int) = some (best none (rowsOf m), true) := by
 intro d
 induction d with
 | zero =>
  intro i k hi hk
  obtain ⟨k, rfl⟩ : ∃ m, k = m + 1 := ⟨k - 1, by omega⟩
  simp only [spec_SingBest.l1]
  rw [if_neg (by omega), List.take_of_length_le (by rw [best_len, rows_len]; omega)]
 | succ d ih =>
  intro i k hi hk
  obtain ⟨k, rfl⟩ : ∃ m, k = m + 1 := ⟨k - 1, by omega⟩
  have hlt : i < m.length := by omega
  have hB : i < (best none (rowsOf m)).length := by rw [best_len, rows_len]; exact hlt
  have hacc : ((best none (rowsOf m)).take i).length = i := by rw [List.length_take]; omega
  simp only [spec_SingBest.l1]
  rw [if_pos (by omega)]
  have hb := best_at (rowsOf m) none i (by rw [rows_len]; exact hlt)
  rw [rows_at m i hlt] at hb
  have hp : (i = 0 ∧ prv none (best none (rowsOf m)) i = none) ∨ (0 < i ∧ prv none (best none (rowsOf m)) i = some (((best none (rowsOf m)).take i).getD (i - 1) 0)) := by
   cases i with
   | zero => exact .inl ⟨rfl, rfl⟩
   | succ i =>
    refine .inr ⟨by omega, ?_⟩
    show some ((best none (rowsOf m)).getD i 0) = _
    rw [getD_at _ _ (by omega), getD_at _ _ (by omega)]
    simp
  have hfd : Full ((rowsOf m).drop (i + 1)) := full_drop fu (i + 1)
  have := bs2 m ((best none (rowsOf m)).take i) (tab (rowsOf m) m.length 0) i (rowOf m[i]) ((rowsOf m).drop (i + 1)) hfd (by rw [List.length_drop, rows_len]; omega) (prv none (best none (rowsOf m)) i) (by rw [tab_len]; exact hlt) (by omega) (by
   rw [tab_at, if_neg (by omega)]
   unfold tabRow
   apply List.map_congr_left
   intro y _
   unfold ent
   rw [rows_at m i hlt]) hacc hp (best none (rowsOf m), true) (50 * d + 1) (fun k hk => by
   have e : (pk1 (fun y => lst y ((rowsOf m).drop (i + 1)) + pre (prv none (best none (rowsOf m)) i) y) (rowOf m[i]) 21).1 = (best none (rowsOf m))[i] := by
    rw [← getD_at _ _ hB 0, hb]
    unfold rowOf fst1
    rw [pk1_all]
   rw [e, ← List.take_succ_eq_append_getElem hB]
   exact ih (i + 1) k (by omega) hk) 21 0 (by omega) k (by omega)
  exact this
theorem bs0_full (m : List S74) (hm : m.length ≤ 24) (fu : Full (rowsOf m)) : ∀ (d i k : Nat), i + d = m.length → 600 * m.length + 60 + d ≤ k → spec_SingBest.l0 k m [] (i : Int) = some (best none (rowsOf m), true) := by
 intro d
 induction d with
 | zero =>
  intro i k hi hk
  obtain ⟨k, rfl⟩ : ∃ m, k = m + 1 := ⟨k - 1, by omega⟩
  simp only [spec_SingBest.l0]
  rw [if_neg (by omega), few_f m hm fu k (by omega), Option.bind_some]
  exact bs1 m hm fu m.length 0 k (by omega) (by omega)
 | succ d ih =>
  intro i k hi hk
  obtain ⟨k, rfl⟩ : ∃ m, k = m + 1 := ⟨k - 1, by omega⟩
  have hlt : i < m.length := by omega
  have hr : rowOf m[i] ≠ [] := fu _ (List.mem_map.2 ⟨m[i], List.getElem_mem hlt, rfl⟩)
  have hr2 := List.length_pos_iff.2 hr
  simp only [spec_SingBest.l0]
  rw [if_pos (by omega), if_pos (by omega), rdt_at m i hlt, hexalls_f _ _ k (by omega), Option.bind_some, if_neg (show ¬ ((hexOf m[i].f0 m[i].f1 7).length : Int) = 0 by unfold rowOf at hr2; omega), w1 (by omega)]
  exact ih (i + 1) k (by omega) (by omega)
theorem bs0_none (m : List S74) (hm : m.length ≤ 24) : ∀ (d i k : Nat), i + d = m.length → 60 + d ≤ k → ¬ Full (rowsOf (m.drop i)) → spec_SingBest.l0 k m [] (i : Int) = some ([], false) := by
 intro d
 induction d with
 | zero =>
  intro i k hi hk hn
  rw [List.drop_eq_nil_of_le (by omega)] at hn
  exact absurd (fun x hx => absurd hx (List.not_mem_nil)) hn
 | succ d ih =>
  intro i k hi hk hn
  obtain ⟨k, rfl⟩ : ∃ m, k = m + 1 := ⟨k - 1, by omega⟩
  have hlt : i < m.length := by omega
  simp only [spec_SingBest.l0]
  rw [if_pos (by omega), if_pos (by omega), rdt_at m i hlt, hexalls_f _ _ k (by omega), Option.bind_some]
  by_cases hr : ((hexOf m[i].f0 m[i].f1 7).length : Int) = 0
  ·rw [if_pos hr]
  ·rw [if_neg hr, w1 (by omega)]
   refine ih (i + 1) k (by omega) (by omega) (fun hf => hn ?_)
   rw [List.drop_eq_getElem_cons hlt]
   intro x hx
   rcases List.mem_cons.1 hx with rfl | hx
   ·intro e
    have e' : hexOf m[i].f0 m[i].f1 7 = [] := e
    rw [e'] at hr
    exact hr rfl
   ·exact hf x hx
theorem bests_f (m : List S74) (hb : m.length ≤ 1048576) (k : Nat) (hk : m.length + 15000 ≤ k) : spec_SingBest.f k m = some (BST m) := by
 unfold spec_SingBest.f BST
 simp only [Option.bind_some]
 rw [mvs_f m hb k (by omega), Option.bind_some]
 by_cases h : MV m = true
 ·have hm := MV_len h
  rw [if_pos h]
  by_cases hs : SB m = true
  ·rw [if_pos hs]
   exact bs0_full m hm ((SB_iff m).1 hs).2 m.length 0 k (by omega) (by omega)
  ·rw [if_neg hs]
   exact bs0_none m hm m.length 0 k (by omega) (by omega) (fun hf => hs ((SB_iff m).2 ⟨h, by rwa [List.drop_zero] at hf⟩))
 ·rw [if_neg h, if_neg (fun hs => h ((SB_iff m).1 hs).1)]
theorem SG_fits : ∀ (m : List S74) (s : List Int), s.length = m.length → (SG m s = true ↔ Fits (rowsOf m) s)
 | [], [], _ => ⟨fun _ => .nil, fun _ => rfl⟩
 | [], x :: s, h => by simp at h
 | t :: m, [], h => by simp at h
 | t :: m, x :: s, h => by
  have ih := SG_fits m s (by simpa using h)
  have hm := mem_hex t.f0 t.f1 x
  show (if sylF x t.f0 t.f1 < 0 then false else SG m s) = true ↔ Fits (rowOf t :: rowsOf m) (x :: s)
  constructor
  ·intro hs
   by_cases hx : sylF x t.f0 t.f1 < 0
   ·rw [if_pos hx] at hs
    exact absurd hs (by decide)
   ·rw [if_neg hx] at hs
    exact .cons (hm.2 (by omega)) (ih.1 hs)
  ·intro hf
   cases hf with
   | cons hx hr =>
    rw [if_neg (by have := hm.1 hx; omega)]
    exact ih.2 hr
theorem SO_iff {m : List S74} {s : List Int} : SO m s = true ↔ MV m = true ∧ Fits (rowsOf m) s := by
 unfold SO
 rw [Bool.and_eq_true, Bool.and_eq_true, decide_eq_true_eq]
 constructor
 ·rintro ⟨h1, h2, h3⟩
  exact ⟨h1, (SG_fits m s h2).1 h3⟩
 ·rintro ⟨h1, h2⟩
  have hl := fits_len h2
  rw [rows_len] at hl
  exact ⟨h1, hl, (SG_fits m s hl).2 h2⟩
theorem joinSp_size (l : List S74) (s : List Int) (i : Nat) : (joinSp ((singNames l s).take i)).size ≤ 4 * i := by
 have hm : ∀ b ∈ (singNames l s).take i, b.size ≤ 3 := by
  intro b hb
  have hb := List.mem_of_mem_take hb
  unfold singNames at hb
  obtain ⟨j, hj, rfl⟩ := List.getElem_of_mem hb
  rw [List.getElem_zipWith]
  exact nameOf_size _
 have h := join_len (((singNames l s).take i).map (·.data.toList)) (by
  intro x hx
  obtain ⟨b, hb, rfl⟩ := List.mem_map.1 hx
  exact hm b hb)
 rw [List.length_map, List.length_take] at h
 show (Lib.join (((singNames l s).take i).map (·.data.toList)) [32]).length ≤ 4 * i
 omega
theorem sti_f (l : List S74) (s : List Int) (k : Nat) (hk : 27 ≤ k) : impl_SingText.f k l s = some (if SO l s = true then joinSp (singNames l s) else ⟨#[]⟩) := by
 unfold impl_SingText.f
 rw [soi_f l s k hk, Option.bind_some]
theorem sameI_l0 (xs : List Int) (hb : xs.length ≤ 1048576) : ∀ (d i k : Nat), i + d = xs.length → d < k → laws_sameInts.l0 k xs xs (i : Int) = some true := by
 intro d
 induction d with
 | zero =>
  intro i k hi hk
  obtain ⟨k, rfl⟩ : ∃ m, k = m + 1 := ⟨k - 1, by omega⟩
  simp only [laws_sameInts.l0]
  rw [if_neg (by omega)]
 | succ d ih =>
  intro i k hi hk
  obtain ⟨k, rfl⟩ : ∃ m, k = m + 1 := ⟨k - 1, by omega⟩
  simp only [laws_sameInts.l0]
  rw [if_pos (by omega), if_pos (by omega), if_pos (by omega), if_pos trivial, w1 (by omega)]
  exact ih (i + 1) k (by omega) (by omega)
theorem sameI_f (xs : List Int) (k : Nat) (hb : xs.length ≤ 1048576) (hk : xs.length < k) : laws_sameInts.f k xs xs = some true := by
 unfold laws_sameInts.f
 rw [if_pos rfl]
 simpa using sameI_l0 xs hb xs.length 0 k (by omega) hk
theorem xor_nn (a b : Int) (ha : 0 ≤ a) (ha' : a < 4611686018427387904) (hb : 0 ≤ b) (hb' : b < 4611686018427387904) : 0 ≤ Go.bits .xor .i64 a b := by
 obtain ⟨x, rfl⟩ := Int.eq_ofNat_of_zero_le ha
 obtain ⟨y, rfl⟩ := Int.eq_ofNat_of_zero_le hb
 have hx : x ^^^ y < 2 ^ 62 := Nat.xor_lt_two_pow (by omega) (by omega)
 have h1 : (BitVec.ofInt 64 (x : Int)).toNat = x := by
  rw [BitVec.ofInt_natCast, BitVec.toNat_ofNat]; exact Nat.mod_eq_of_lt (by omega)
 have h2 : (BitVec.ofInt 64 (y : Int)).toNat = y := by
  rw [BitVec.ofInt_natCast, BitVec.toNat_ofNat]; exact Nat.mod_eq_of_lt (by omega)
 have e : Go.bits .xor .i64 (x : Int) (y : Int) = IntKind.i64.wrap (((x ^^^ y : Nat)) : Int) := by
  show IntKind.i64.wrap ((BitVec.ofInt 64 (x : Int) ^^^ BitVec.ofInt 64 (y : Int)).toNat : Int) = _
  rw [BitVec.toNat_xor, h1, h2]
 rw [e, IntWalk.i64_in _ (by omega)]
 omega
/-- A list of bytes. -/
def Bytes (l : List Int) : Prop := ∀ n ∈ l, 0 ≤ n ∧ n ≤ 255
theorem rd_byte {l : List Int} (h : Bytes l) (i : Int) (h0 : 0 ≤ i) (h1 : i < (l.length : Int)) : 0 ≤ rd l i ∧ rd l i ≤ 255 := by
 obtain ⟨n, rfl⟩ := Int.eq_ofNat_of_zero_le h0
 have hn : n < l.length := by omega
 rw [rd_at l n hn]
 exact h _ (List.getElem_mem hn)
theorem tm_bd (a n : Int) (ha : 0 ≤ a) (hn : 0 < n) : 0 ≤ Int.tmod a n ∧ Int.tmod a n < n := by
 rw [Int.tmod_eq_emod_of_nonneg ha]
 exact ⟨Int.emod_nonneg _ (by omega), Int.emod_lt_of_pos _ hn⟩
theorem td_bd (a n : Int) (ha : 0 ≤ a) (hn : 0 < n) : 0 ≤ Int.tdiv a n ∧ Int.tdiv a n ≤ a := by
 rw [Int.tdiv_eq_ediv_of_nonneg ha]
 exact ⟨Int.ediv_nonneg ha (by omega), Int.ediv_le_self _ ha⟩
theorem pick_some (l : List Int) (hl : Bytes l) (hn : l.length ≤ 2000) (p n : Int) (hp : 0 ≤ p) (hp' : p ≤ 1000000) (h1 : 1 ≤ n) (h2 : n ≤ 1000000) :
  ∃ v, 0 ≤ v ∧ v < n ∧ ∀ k, spec_l6Rd_pick.f (k + 1) l p n = some (v, p + 1) := by
 unfold spec_l6Rd_pick.f
 simp only [spec_l6Rd_pick.j0]
 rw [if_neg (show ¬ n < 1 by omega), w0 (i := p + 1) (by omega) (by omega), show p + 1 - 1 = p by omega, w0 (i := p) (by omega) (by omega)]
 by_cases hl0 : l.length = 0
 ·refine ⟨0, by omega, by omega, fun k => ?_⟩
  rw [if_pos (show ((l.length : Int) == 0) = true by rw [hl0]; rfl)]
 ·rw [if_neg (show ¬ (((l.length : Int) == 0) = true) from fun h => hl0 (by have := beq_iff_eq.1 h; omega))]
  have hlp : (0 : Int) < (l.length : Int) := by omega
  by_cases hpl : p < (l.length : Int)
  ·obtain ⟨b0, b1⟩ := rd_byte hl p hp hpl
   rw [if_pos hpl, if_pos hp, if_neg (show ¬ n = 0 by omega), w0 (i := rd l p) (by omega) (by omega)]
   obtain ⟨t0, t1⟩ := tm_bd (rd l p) n b0 (by omega)
   exact ⟨_, t0, t1, fun _ => rfl⟩
  ·rw [if_neg hpl, if_neg (show ¬ (l.length : Int) = 0 by omega), w0 (i := p * 7) (by omega) (by omega), w0 (i := p * 7 + 3) (by omega) (by omega)]
   obtain ⟨i0, i1⟩ := tm_bd p (l.length : Int) hp hlp
   obtain ⟨j0, j1⟩ := tm_bd (p * 7 + 3) (l.length : Int) (by omega) hlp
   obtain ⟨q0, q1⟩ := td_bd p (l.length : Int) hp hlp
   rw [if_pos i0, if_pos i1, if_pos j0, if_pos j1, if_neg (show ¬ n = 0 by omega)]
   obtain ⟨a0, a1⟩ := rd_byte hl _ i0 i1
   obtain ⟨b0, b1⟩ := rd_byte hl _ j0 j1
   generalize rd l (Int.tmod p (l.length : Int)) = a at a0 a1 ⊢
   generalize rd l (Int.tmod (p * 7 + 3) (l.length : Int)) = b at b0 b1 ⊢
   generalize Int.tdiv p (l.length : Int) = q at q0 q1 ⊢
   simp (disch := omega) only [w0]
   have x0 : 0 ≤ a * 131 + b * 1117 + p * 29 + q * 53 := by omega
   obtain ⟨d0, d1⟩ := td_bd (a * 131 + b * 1117 + p * 29 + q * 53) 64 x0 (by omega)
   rw [w0 (i := Int.tdiv (a * 131 + b * 1117 + p * 29 + q * 53) 64) (by omega) (by omega)]
   obtain ⟨t0, t1⟩ := tm_bd (Go.bits .xor .i64 (a * 131 + b * 1117 + p * 29 + q * 53) (Int.tdiv (a * 131 + b * 1117 + p * 29 + q * 53) 64)) n (xor_nn _ _ x0 (by omega) d0 (by omega)) (by omega)
   exact ⟨_, t0, t1, fun _ => rfl⟩
/-- What a reader's pick answers. -/
def pk (l : List Int) (p n : Int) : Int := ((spec_l6Rd_pick.f 1 l p n).getD (0, 0)).1
structure Rdr (l : List Int) : Prop where
 bytes : Bytes l
 len : l.length ≤ 2000
theorem pk_f {l : List Int} (h : Rdr l) (p n : Int) (k : Nat) (hp : 0 ≤ p) (hp' : p ≤ 1000000) (h1 : 1 ≤ n) (h2 : n ≤ 1000000) (hk : 1 ≤ k) : spec_l6Rd_pick.f k l p n = some (pk l p n, p + 1) := by
 obtain ⟨v, _, _, hv⟩ := pick_some l h.bytes h.len p n hp hp' h1 h2
 unfold pk
 rw [hv 0]
 obtain ⟨k, rfl⟩ : ∃ m, k = m + 1 := ⟨k - 1, by omega⟩
 rw [hv k]
 rfl
theorem pk_bd {l : List Int} (h : Rdr l) (p n : Int) (hp : 0 ≤ p) (hp' : p ≤ 1000000) (h1 : 1 ≤ n) (h2 : n ≤ 1000000) : 0 ≤ pk l p n ∧ pk l p n < n := by
 obtain ⟨v, h3, h4, hv⟩ := pick_some l h.bytes h.len p n hp hp' h1 h2
 unfold pk
 rw [hv 0]
 exact ⟨h3, h4⟩
theorem open_f (l : List Int) (hl : Bytes l) : ∃ s, spec_l6Open.f l = some (s, 0) ∧ Rdr s := by
 unfold spec_l6Open.f
 by_cases h : (l.length : Int) > 2000
 ·rw [if_pos h, if_pos (by omega)]
  exact ⟨_, rfl, ⟨fun n hn => hl n (List.mem_of_mem_take hn), by simp; omega⟩⟩
 ·rw [if_neg h]
  exact ⟨_, rfl, ⟨hl, by omega⟩⟩
theorem bytes_of {l : List Int} (h : ∀ n ∈ l, (Lit.int .u8 n).wf = true) : Bytes l := fun n hn => by
 have := h n hn
 simp [Lit.wf, IntKind.min, IntKind.max, IntKind.signed, IntKind.bits] at this
 omega
theorem letter_f (a : Int) : spec_l1Letter.f a = some (Int.tmod a 7) := rfl
theorem clamp_bd (a b x : Int) (h : a ≤ b) : a ≤ mx a (mn b x) ∧ mx a (mn b x) ≤ b := by
 unfold mx mn
 constructor <;> (repeat' split) <;> omega
theorem mel_end (l : List Int) (h : Rdr l) (acc : List S74) (n : Nat) (x p : Int) (hn : n ≤ 20) (ha : acc.length = n) (hp : 0 ≤ p) (hp' : p ≤ 100000) :
  ∃ m q, m.length = n ∧ p ≤ q ∧ q ≤ p + 2 ∧ ∀ k, 2 ≤ k → spec_l91Melody.l0 k acc (n : Int) x (n : Int) l p = some (m, q) := by
 by_cases h0 : n = 0
 ·refine ⟨acc, p, ha, by omega, by omega, fun k hk => ?_⟩
  obtain ⟨k, rfl⟩ : ∃ m, k = m + 1 := ⟨k - 1, by omega⟩
  simp only [spec_l91Melody.l0]
  rw [if_neg (by omega), if_neg (by omega)]
 ·by_cases h1 : pk l p 50 = 0
  ·obtain ⟨v0, v1⟩ := pk_bd h (p + 1) 3 (by omega) (by omega) (by omega) (by omega)
   refine ⟨acc.set (0 : Int).toNat ⟨rd ([-1, 21, 20] : List Int) (pk l (p + 1) 3), (rd_T74 acc 0).f1⟩, p + 1 + 1, by simp [ha], by omega, by omega, fun k hk => ?_⟩
   obtain ⟨k, rfl⟩ : ∃ m, k = m + 1 := ⟨k - 1, by omega⟩
   simp only [spec_l91Melody.l0]
   rw [if_neg (by omega), if_pos (by omega), pk_f h p 50 k (by omega) (by omega) (by omega) (by omega) (by omega)]
   simp only [Option.bind_some]
   rw [if_pos h1, pk_f h (p + 1) 3 k (by omega) (by omega) (by omega) (by omega) (by omega)]
   simp only [Option.bind_some]
   rw [if_pos v0, if_pos (by simpa using v1), if_pos (by omega)]
  ·by_cases h2 : pk l p 50 = 1
   ·have e : wrap64 ((n : Int) - 1) = ((n - 1 : Nat) : Int) := by rw [w0 (by omega) (by omega)]; omega
    refine ⟨acc.set (((n - 1 : Nat) : Int)).toNat ⟨(rd_T74 acc ((n - 1 : Nat) : Int)).f0, true⟩, p + 1, by simp [ha], by omega, by omega, fun k hk => ?_⟩
    obtain ⟨k, rfl⟩ : ∃ m, k = m + 1 := ⟨k - 1, by omega⟩
    simp only [spec_l91Melody.l0]
    rw [if_neg (by omega), if_pos (by omega), pk_f h p 50 k (by omega) (by omega) (by omega) (by omega) (by omega)]
    simp only [Option.bind_some]
    rw [if_neg h1, if_pos h2, e, if_pos (by omega), if_pos (by omega)]
   ·refine ⟨acc, p + 1, ha, by omega, by omega, fun k hk => ?_⟩
    obtain ⟨k, rfl⟩ : ∃ m, k = m + 1 := ⟨k - 1, by omega⟩
    simp only [spec_l91Melody.l0]
    rw [if_neg (by omega), if_pos (by omega), pk_f h p 50 k (by omega) (by omega) (by omega) (by omega) (by omega)]
    simp only [Option.bind_some]
    rw [if_neg h1, if_neg h2]
theorem mel_l0 (l : List Int) (h : Rdr l) (n : Nat) (hn : n ≤ 20) : ∀ (d i : Nat) (acc : List S74) (x p : Int), i + d = n → acc.length = i → 0 ≤ x → x ≤ 20 → 0 ≤ p → p ≤ 10000 + 2 * i →
  ∃ m q, m.length = n ∧ p ≤ q ∧ q ≤ p + 2 * d + 2 ∧ ∀ k, d + 2 ≤ k → spec_l91Melody.l0 k acc (n : Int) x (i : Int) l p = some (m, q) := by
 intro d
 induction d with
 | zero =>
  intro i acc x p hi ha h0 h1 hp hp'
  have e : i = n := by omega
  subst e
  obtain ⟨m, q, hm, q0, q1, hq⟩ := mel_end l h acc i x p hn ha hp (by omega)
  exact ⟨m, q, hm, q0, by omega, fun k hk => hq k (by omega)⟩
 | succ d ih =>
  intro i acc x p hi ha h0 h1 hp hp'
  by_cases hx : Int.tmod x 7 = 2
  ·obtain ⟨v0, v1⟩ := pk_bd h (p + 1) 5 (by omega) (by omega) (by omega) (by omega)
   obtain ⟨c0, c1⟩ := clamp_bd 1 15 (x + pk l (p + 1) 5 - 2) (by omega)
   obtain ⟨m, q, hm, q0, q1, hq⟩ := ih (i + 1) (acc ++ [⟨x, pk l p 3 == 0⟩]) (mx 1 (mn 15 (x + pk l (p + 1) 5 - 2))) (p + 1 + 1) (by omega) (by simp [ha]) (by omega) (by omega) (by omega) (by omega)
   refine ⟨m, q, hm, by omega, by omega, fun k hk => ?_⟩
   obtain ⟨k, rfl⟩ : ∃ m, k = m + 1 := ⟨k - 1, by omega⟩
   simp only [spec_l91Melody.l0]
   rw [if_pos (by omega), letter_f]
   simp only [Option.bind_some]
   rw [if_pos hx, pk_f h p 3 k (by omega) (by omega) (by omega) (by omega) (by omega)]
   simp only [Option.bind_some]
   rw [if_pos (by omega), pk_f h (p + 1) 5 k (by omega) (by omega) (by omega) (by omega) (by omega)]
   simp only [Option.bind_some]
   rw [w1 (by omega), w0 (i := x + pk l (p + 1) 5) (by omega) (by omega), w0 (i := x + pk l (p + 1) 5 - 2) (by omega) (by omega)]
   exact hq k (by omega)
  ·obtain ⟨v0, v1⟩ := pk_bd h p 5 (by omega) (by omega) (by omega) (by omega)
   obtain ⟨c0, c1⟩ := clamp_bd 1 15 (x + pk l p 5 - 2) (by omega)
   obtain ⟨m, q, hm, q0, q1, hq⟩ := ih (i + 1) (acc ++ [⟨x, false⟩]) (mx 1 (mn 15 (x + pk l p 5 - 2))) (p + 1) (by omega) (by simp [ha]) (by omega) (by omega) (by omega) (by omega)
   refine ⟨m, q, hm, by omega, by omega, fun k hk => ?_⟩
   obtain ⟨k, rfl⟩ : ∃ m, k = m + 1 := ⟨k - 1, by omega⟩
   simp only [spec_l91Melody.l0]
   rw [if_pos (by omega), letter_f]
   simp only [Option.bind_some]
   rw [if_neg hx, if_pos (by omega), pk_f h p 5 k (by omega) (by omega) (by omega) (by omega) (by omega)]
   simp only [Option.bind_some]
   rw [w1 (by omega), w0 (i := x + pk l p 5) (by omega) (by omega), w0 (i := x + pk l p 5 - 2) (by omega) (by omega)]
   exact hq k (by omega)
theorem mel_d (l : List Int) (h : Rdr l) (p : Int) (a : Nat) (ha : a ≤ 20) (hp : 0 ≤ p) (hp' : p ≤ 5000) : ∃ m q, m.length ≤ a ∧ p ≤ q ∧ q ≤ p + 100 ∧ ∀ k, 40 ≤ k → spec_l91Melody.f k l p (a : Int) = some (m, q) := by
 obtain ⟨v0, v1⟩ := pk_bd h p ((a : Int) + 1) (by omega) (by omega) (by omega) (by omega)
 obtain ⟨u0, u1⟩ := pk_bd h (p + 1) 5 (by omega) (by omega) (by omega) (by omega)
 obtain ⟨n, hn⟩ := Int.eq_ofNat_of_zero_le v0
 obtain ⟨m, q, hm, q0, q1, hq⟩ := mel_l0 l h n (by omega) n 0 [] (4 + pk l (p + 1) 5) (p + 1 + 1) (by omega) rfl (by omega) (by omega) (by omega) (by omega)
 refine ⟨m, q, by omega, by omega, by omega, fun k hk => ?_⟩
 unfold spec_l91Melody.f
 rw [w0 (i := (a : Int) + 1) (by omega) (by omega), pk_f h p ((a : Int) + 1) k (by omega) (by omega) (by omega) (by omega) (by omega)]
 simp only [Option.bind_some]
 rw [pk_f h (p + 1) 5 k (by omega) (by omega) (by omega) (by omega) (by omega)]
 simp only [Option.bind_some]
 rw [w0 (i := 4 + pk l (p + 1) 5) (by omega) (by omega), hn]
 exact hq k (by omega)
theorem idx10_hit : ∀ (l r : List UInt8), ¬ (10 : UInt8) ∈ l → Lib.index (l ++ 10 :: r) [10] = (l.length : Int)
 | [], r, _ => by
  show Lib.index (10 :: r) [10] = 0
  unfold Lib.index
  rw [if_pos (by simp [List.isPrefixOf])]
 | b :: l, r, h => by
  have ih := idx10_hit l r (fun x => h (List.mem_cons_of_mem _ x))
  have hb : (10 : UInt8) ≠ b := fun e => h (by rw [e]; exact List.mem_cons_self ..)
  rw [List.cons_append]
  unfold Lib.index
  rw [if_neg (by simpa [List.isPrefixOf] using hb), ih, if_neg (by simp), List.length_cons]
  omega
theorem cut_hit (l r : List UInt8) (h : ¬ (10 : UInt8) ∈ l) : Lib.cut (l ++ 10 :: r) [10] = (l, r, true) := by
 have e : (l ++ 10 :: r).drop (l.length + [(10 : UInt8)].length) = r := by
  rw [show l.length + [(10 : UInt8)].length = l.length + 1 from rfl, List.drop_append, List.drop_eq_nil_of_le (by omega), List.nil_append, show l.length + 1 - l.length = 1 by omega]
  rfl
 unfold Lib.cut
 rw [idx10_hit l r h, if_pos (by omega), Int.toNat_natCast, e, List.take_append_of_le_length (Nat.le_refl _), List.take_length]
theorem execGo_line {step : List S74 → ByteArray → Option (List S74 × ByteArray)} {k : Nat} {m m' : List S74} {out o : ByteArray} {l r : List UInt8} (hl : ¬ (10 : UInt8) ∈ l) (hs : step m ⟨l.toArray⟩ = some (m', o)) (hz : out.size + o.size < 1000000) : execGo step (k + 1) m out (l ++ 10 :: r) = execGo step k m' (out ++ (o ++ (⟨#[10]⟩ : ByteArray))) r := by
 rw [execGo, cut_hit l r hl]
 dsimp only
 rw [if_pos rfl, hs, Option.bind_some, if_pos hz]
theorem execGo_end {step : List S74 → ByteArray → Option (List S74 × ByteArray)} {k : Nat} {m : List S74} {out : ByteArray} : execGo step (k + 1) m out [] = some (m, out) := by
 rw [execGo, show Lib.cut [] [10] = ([], [], false) from rfl]
 rfl
theorem split_join' (ws : List ByteArray) (h0 : ws ≠ []) (h : ∀ x ∈ ws, ¬ (32 : UInt8) ∈ x.data.toList) : splitS ⟨(Lib.join (ws.map (·.data.toList)) [32]).toArray⟩ = ws := splitW_join ws h0 h
theorem join_two (x : List UInt8) (ys : List (List UInt8)) (h : ys ≠ []) : Lib.join (x :: ys) [32] = x ++ 32 :: Lib.join ys [32] := by
 cases ys with
 | nil => exact absurd rfl h
 | cons y r =>
  rw [Lib.join_cons, Lib.join_cons]
  simp [Lib.joinTail]
theorem join_no10 : ∀ ys : List (List UInt8), (∀ y ∈ ys, ¬ (10 : UInt8) ∈ y) → ¬ (10 : UInt8) ∈ Lib.join ys [32]
 | [], _ => by simp [Lib.join]
 | [y], h => by
  rw [Lib.join_one]
  exact h y (List.mem_singleton.2 rfl)
 | x :: y :: r, h => by
  rw [join_two x (y :: r) (by simp)]
  intro hm
  rcases List.mem_append.1 hm with hm | hm
  ·exact h x (List.mem_cons_self ..) hm
  ·rcases List.mem_cons.1 hm with hm | hm
   ·exact absurd hm (by decide)
   ·exact join_no10 (y :: r) (fun z hz => h z (List.mem_cons_of_mem _ hz)) hm
theorem ix_mel (xs : List ByteArray) : cmdT.findIdx? (cmdM ((⟨#[109, 101, 108, 111, 100, 121]⟩ : ByteArray) :: xs)) = some 0 := by
 simp [cmdT, List.findIdx?_cons, cmdM]
theorem ix_show : cmdT.findIdx? (cmdM [(⟨#[115, 104, 111, 119]⟩ : ByteArray)]) = some 3 := by decide +kernel
theorem split_show : splitS (⟨#[115, 104, 111, 119]⟩ : ByteArray) = [⟨#[115, 104, 111, 119]⟩] := by decide +kernel
theorem mono_ux {α : Type} {f : Nat → Option α} (h : ∀ j, LeO (f j) (f (j + 1))) {j : Nat} : ∀ (k : Nat) (r : α), f j = some r → f (j + k) = some r
 | 0, _, e => e
 | k + 1, r, e => h (j + k) r (mono_ux h k r e)
theorem mono_to {α : Type} {f : Nat → Option α} (h : ∀ j, LeO (f j) (f (j + 1))) {j K : Nat} {r : α} (hj : j ≤ K) (e : f j = some r) : f K = some r := by
 have := mono_ux h (K - j) r e
 rwa [show j + (K - j) = K by omega] at this
theorem dig_all : ∀ n, n < 25 → (laws_digits.f 5 ((n : Nat) : Int)).map (·.data) = some (decS n).data := by decide +kernel
theorem dig_f (n : Nat) (h : n < 25) (k : Nat) (hk : 5 ≤ k) : laws_digits.f k (n : Int) = some (decS n) := by
 have e := dig_all n h
 cases hs : laws_digits.f 5 ((n : Nat) : Int) with
 | none => rw [hs] at e; simp at e
 | some v =>
  rw [hs] at e
  have e2 : v = decS n := ByteArray.ext (Option.some.inj e)
  rw [e2] at hs
  exact mono_to (f := fun k => laws_digits.f k (n : Int)) (fun j => laws_digits.mono _ j) hk hs
theorem end_f (n : Nat) (h : n < 25) (k : Nat) (hk : 5 ≤ k) : laws_endLine.f k (n : Int) 0 = some (endTxt (decS n) (decS 0)) := by
 have h1 := decS_size n
 have h2 := decS_size 0
 unfold laws_endLine.f
 rw [dig_f n h k hk, Option.bind_some, show (0 : Int) = ((0 : Nat) : Int) from rfl, dig_f 0 (by decide) k hk, Option.bind_some, if_pos (by omega)]
theorem exec_end (out : ByteArray) (n : Nat) : execTxt out n = out ++ endTxt (decS n) (decS 0) := by
 apply ByteArray.ext
 simp [execTxt, endTxt, ByteArray.data_append, Array.append_assoc]
theorem end_size (n : Nat) : (endTxt (decS n) (decS 0)).size ≤ 40 := by
 have h1 := decS_size n
 have h2 := decS_size 0
 unfold endTxt
 simp only [ByteArray.size_append]
 have e1 : (⟨#[116, 111, 110, 101, 115, 32]⟩ : ByteArray).size = 6 := rfl
 have e2 : (⟨#[32, 101, 110, 116, 114, 105, 101, 115, 32]⟩ : ByteArray).size = 9 := rfl
 have e3 : (⟨#[10]⟩ : ByteArray).size = 1 := rfl
 omega
theorem ttx_no10a : ∀ m, m < 21 → ∀ b : Bool, ¬ (10 : UInt8) ∈ ((impl_Tone_text.f ((m : Nat) : Int) b).getD ⟨#[]⟩).data.toList := by decide +kernel
theorem ttx_no10 {t : S74} (h : tvv t = true) : ¬ (10 : UInt8) ∈ (ttx t).data.toList := by
 obtain ⟨a, b⟩ := t
 have hb := tv_bd (show tv a b = true from h)
 obtain ⟨m, rfl⟩ := Int.eq_ofNat_of_zero_le hb.1
 exact ttx_no10a m (by omega) b
theorem sg_all : ∀ n, n < 41 → (laws_signed.f 8 ((n : Nat) - 20 : Int)).map (·.data) = some (itoaB ((n : Nat) - 20 : Int)).data ∧ (itoaB ((n : Nat) - 20 : Int)).size ≤ 3 := by decide +kernel
theorem sg_ok {a : Int} (h0 : -20 ≤ a) (h1 : a ≤ 20) : laws_signed.f 8 a = some (itoaB a) ∧ (itoaB a).size ≤ 3 := by
 obtain ⟨n, hn⟩ := Int.eq_ofNat_of_zero_le (show 0 ≤ a + 20 by omega)
 obtain rfl : a = ((n : Nat) - 20 : Int) := by omega
 obtain ⟨e, q1⟩ := sg_all n (by omega)
 refine ⟨?_, q1⟩
 cases hs : laws_signed.f 8 ((n : Nat) - 20 : Int) with
 | none => rw [hs] at e; simp at e
 | some v =>
  rw [hs] at e
  rw [show v = itoaB ((n : Nat) - 20 : Int) from ByteArray.ext (Option.some.inj e)]
theorem sg_f {a : Int} (h0 : -20 ≤ a) (h1 : a ≤ 20) (k : Nat) (hk : 8 ≤ k) : laws_signed.f k a = some (itoaB a) := mono_to (f := fun k => laws_signed.f k a) (fun j => laws_signed.mono _ j) hk (sg_ok h0 h1).1
theorem wn_size : ∀ (L : List Int) (w : ByteArray), (∀ d ∈ L, -20 ≤ d ∧ d ≤ 20) → (wn w L).size ≤ w.size + 4 * L.length
 | [], w, _ => by simp [wn]
 | d :: r, w, h => by
  have ih := wn_size r (w ++ ((⟨#[32]⟩ : ByteArray) ++ itoaB d)) (fun x hx => h x (List.mem_cons_of_mem _ hx))
  have h1 := (sg_ok (h d (List.mem_cons_self ..)).1 (h d (List.mem_cons_self ..)).2).2
  rw [ByteArray.size_append, ByteArray.size_append] at ih
  have e : (⟨#[32]⟩ : ByteArray).size = 1 := rfl
  rw [wn, List.length_cons]
  omega
theorem rdi_at (xs : List Int) (i : Nat) (h : i < xs.length) : rd xs (i : Int) = xs[i] := by
 simp [rd, List.getD_eq_getElem?_getD, h]
theorem wn_f (L : List Int) (hL : L.length ≤ 24) (hd : ∀ d ∈ L, -20 ≤ d ∧ d ≤ 20) (k : Nat) : impl_withNumbers.f k stB L = some (wn stB L) := by
 unfold impl_withNumbers.f
 rw [if_pos ⟨fun d h => ⟨by have := (hd d h).1; omega, by have := (hd d h).2; omega⟩, by omega, by decide⟩]
theorem steps_bd : ∀ (m : List S74), (∀ t ∈ m, tvv t = true) → ∀ d ∈ stepsOf m, -20 ≤ d ∧ d ≤ 20
 | [], _, d, hd => by simp [stepsOf] at hd
 | [t], _, d, hd => by simp [stepsOf] at hd
 | t :: u :: r, h, d, hd => by
  rw [stepsOf] at hd
  rcases List.mem_cons.1 hd with rfl | hd
  ·have h1 := tv_bd (show tv t.f0 t.f1 = true from h t (List.mem_cons_self ..))
   have h2 := tv_bd (show tv u.f0 u.f1 = true from h u (List.mem_cons_of_mem _ (List.mem_cons_self ..)))
   omega
  ·exact steps_bd (u :: r) (fun x hx => h x (List.mem_cons_of_mem _ hx)) d hd
theorem mst_f (m : List S74) (hM : MV m = true) (h0 : m.length ≠ 0) (k : Nat) (hk : 25 ≤ k) : impl_MelodySteps.f k m = some (stepsOf m) := by
 unfold impl_MelodySteps.f
 rw [mvi_f m k hk, Option.bind_some, if_pos ⟨hM, by omega⟩]
theorem stepsL (m : List S74) : (stepsOf m).length ≤ m.length := by
 rw [stepsOf_len]
 omega
def sgB : ByteArray := ⟨#[115, 105, 110, 103]⟩
theorem ix_steps : cmdT.findIdx? (cmdM [stB]) = some 4 := by decide +kernel
theorem split_steps : splitS stB = [stB] := by decide +kernel
theorem ix_sing : cmdT.findIdx? (cmdM [sgB]) = some 5 := by decide +kernel
theorem split_sing : splitS sgB = [sgB] := by decide +kernel
theorem exec_mel (m : List S74) (L : List Int) (hM : MV m = true) (h0 : m.length ≠ 0) (hL : L.length = m.length) (hB : BST m = (L, true)) (hS : SO m L = true) :
  impl_Execute.f 19998 (((⟨#[109, 101, 108, 111, 100, 121, 32]⟩ : ByteArray) ++ mjoin (m.map ttx)) ++ (⟨#[10, 115, 104, 111, 119, 10, 115, 116, 101, 112, 115, 10, 115, 105, 110, 103, 10]⟩ : ByteArray)) = some ((((((((⟨#[111, 107, 10, 109, 101, 108, 111, 100, 121, 32]⟩ : ByteArray) ++ mjoin (m.map ttx)) ++ (⟨#[10]⟩ : ByteArray)) ++ wn stB (stepsOf m)) ++ (⟨#[10]⟩ : ByteArray)) ++ joinSp (singNames m L)) ++ (⟨#[10]⟩ : ByteArray)) ++ endTxt (decS m.length) (decS 0)) := by
 have ha : m.all tvv = true := by unfold MV at hM; rw [Bool.and_eq_true] at hM; exact hM.2
 have hl := (mv_facts (show impl_MelodyValid.f 25 m = some true by rw [mvi_f m 25 (by decide), hM])).1
 have hT := mjoin_size hM
 have hne : m.map ttx ≠ [] := by intro e; have := congrArg List.length e; rw [List.length_map, List.length_nil] at this; exact h0 this
 have hnm : ∀ x ∈ m.map ttx, ¬ (32 : UInt8) ∈ x.data.toList ∧ ¬ (10 : UInt8) ∈ x.data.toList := by
  intro x hx
  obtain ⟨t, ht, rfl⟩ := List.mem_map.1 hx
  exact ⟨(ttx_facts (List.all_eq_true.1 ha t ht)).2, ttx_no10 (List.all_eq_true.1 ha t ht)⟩
 have hsl := stepsL m
 have hsb := steps_bd m (List.all_eq_true.1 ha)
 have hW := wn_size (stepsOf m) stB hsb
 have hJ := joinSp_size m L m.length
 rw [List.take_of_length_le (by rw [singNames_len hL]; exact Nat.le_refl _)] at hJ
 have s1 : (⟨#[109, 101, 108, 111, 100, 121, 32]⟩ : ByteArray).size = 7 := rfl
 have s2 : (⟨#[10, 115, 104, 111, 119, 10, 115, 116, 101, 112, 115, 10, 115, 105, 110, 103, 10]⟩ : ByteArray).size = 17 := rfl
 have s3 : stB.size = 5 := rfl
 unfold impl_Execute.f
 rw [if_pos (by simp only [ByteArray.size_append]; omega)]
 have e : (((⟨#[109, 101, 108, 111, 100, 121, 32]⟩ : ByteArray) ++ mjoin (m.map ttx)) ++ (⟨#[10, 115, 104, 111, 119, 10, 115, 116, 101, 112, 115, 10, 115, 105, 110, 103, 10]⟩ : ByteArray)).data.toList = Lib.join ((melB :: m.map ttx).map (·.data.toList)) [32] ++ 10 :: (([115, 104, 111, 119] : List UInt8) ++ 10 :: (([115, 116, 101, 112, 115] : List UInt8) ++ 10 :: (([115, 105, 110, 103] : List UInt8) ++ 10 :: []))) := by
  rw [List.map_cons, join_two _ _ (by simpa using hne)]
  simp [ByteArray.data_append, mjoin, melB]
 have n1 : ¬ (10 : UInt8) ∈ Lib.join ((melB :: m.map ttx).map (·.data.toList)) [32] := by
  refine join_no10 _ (fun y hy => ?_)
  obtain ⟨x, hx, rfl⟩ := List.mem_map.1 hy
  rcases List.mem_cons.1 hx with rfl | hx
  ·decide
  ·exact (hnm x hx).2
 have p1 : splitS ⟨(Lib.join ((melB :: m.map ttx).map (·.data.toList)) [32]).toArray⟩ = melB :: m.map ttx := by
  refine split_join' _ (by simp) (fun x hx => ?_)
  rcases List.mem_cons.1 hx with rfl | hx
  ·decide
  ·exact (hnm x hx).1
 have z1 : (⟨(Lib.join ((melB :: m.map ttx).map (·.data.toList)) [32]).toArray⟩ : ByteArray).size < 4294967281 := by
  show (Lib.join _ _).toArray.size < _
  rw [List.size_toArray, List.map_cons, join_two _ _ (by simpa using hne), List.length_append, List.length_cons]
  have : (Lib.join ((m.map ttx).map (·.data.toList)) [32]).length ≤ 96 := hT
  have : melB.data.toList.length = 6 := rfl
  omega
 have ok1 : (saidB true).size = 2 := rfl
 have st1 : stepL 19998 [] ⟨(Lib.join ((melB :: m.map ttx).map (·.data.toList)) [32]).toArray⟩ = some (m, saidB true) := by
  unfold stepL
  rw [if_pos z1, p1, if_pos (show cmdT.findIdx? (cmdM (melB :: m.map ttx)) = some 0 from ix_mel _)]
  have hfrom : impl_MelodyFrom.f 19998 (joinT (m.map ttx)) = some (m, true) := by
   unfold impl_MelodyFrom.f mfRes
   have hn : ¬ (joinT (m.map ttx)).toList = [] := by
    rw [ByteArray.toList_eq]
    show ¬ Lib.join ((m.map ttx).map (·.data.toList)) [32] = []
    cases m with
    | nil => exact absurd rfl h0
    | cons t ts =>
     rw [List.map_cons, List.map_cons, Lib.join_cons]
     intro e2
     exact (ttx_facts (List.all_eq_true.1 ha t (List.mem_cons_self ..))).1 (List.append_eq_nil_iff.1 e2).1
   have hsp : splitW (joinT (m.map ttx)) = m.map ttx := splitW_join (m.map ttx) hne (fun x hx => (hnm x hx).1)
   rw [if_pos (show (joinT (m.map ttx)).size < 4294967281 from Nat.lt_of_le_of_lt hT (by decide)), if_neg hn, hsp, mfGo_ttx m [] ha (by simp; omega)]
   rfl
  rw [List.tail_cons, hfrom]
  rfl
 have st2 : stepL 19998 m ⟨([115, 104, 111, 119] : List UInt8).toArray⟩ = some (m, melSB ++ mjoin (m.map ttx)) := by
  unfold stepL
  rw [if_pos (by decide), show splitS (⟨([115, 104, 111, 119] : List UInt8).toArray⟩ : ByteArray) = [⟨#[115, 104, 111, 119]⟩] from split_show, ix_show, if_neg (by decide), if_pos rfl, mti_f m 19998 (by decide), if_pos hM, Option.bind_some, if_pos (by omega)]
  unfold showT
  rw [if_neg h0]
 have st3 : stepL 19998 m ⟨([115, 116, 101, 112, 115] : List UInt8).toArray⟩ = some (m, wn stB (stepsOf m)) := by
  unfold stepL
  rw [if_pos (by decide), show splitS (⟨([115, 116, 101, 112, 115] : List UInt8).toArray⟩ : ByteArray) = [stB] from split_steps, ix_steps, if_neg (by decide), if_neg (by decide), if_pos rfl, mst_f m hM h0 19998 (by decide), Option.bind_some, wn_f (stepsOf m) (by omega) hsb 19998, Option.bind_some]
 have st4 : stepL 19998 m ⟨([115, 105, 110, 103] : List UInt8).toArray⟩ = some (m, joinSp (singNames m L)) := by
  unfold stepL
  rw [if_pos (by decide), show splitS (⟨([115, 105, 110, 103] : List UInt8).toArray⟩ : ByteArray) = [sgB] from split_sing, ix_sing, if_neg (by decide), if_neg (by decide), if_neg (by decide), if_pos rfl, besti_f m 19998 (by decide), Option.bind_some, hB]
  dsimp only
  rw [if_pos ⟨rfl, by omega⟩, sti_f m L 19998 (by decide), if_pos hS, Option.bind_some]
 have sB : (melSB ++ mjoin (m.map ttx)).size ≤ 103 := by
  rw [ByteArray.size_append]
  have : melSB.size = 7 := rfl
  omega
 have sN : (⟨#[10]⟩ : ByteArray).size = 1 := rfl
 have sE : (⟨#[]⟩ : ByteArray).size = 0 := rfl
 rw [e, show (19998 : Nat) = 19997 + 1 from rfl]
 rw [execGo_line n1 st1 (by rw [ok1, sE]; decide), show (19997 : Nat) = 19996 + 1 from rfl, execGo_line (by decide) st2 (by simp only [ByteArray.size_append] at sB ⊢; omega), show (19996 : Nat) = 19995 + 1 from rfl, execGo_line (by decide) st3 (by simp only [ByteArray.size_append] at sB ⊢; omega), show (19995 : Nat) = 19994 + 1 from rfl, execGo_line (by decide) st4 (by simp only [ByteArray.size_append] at sB ⊢; omega), show (19994 : Nat) = 19993 + 1 from rfl, execGo_end, Option.bind_some]
 dsimp only
 rw [if_pos ⟨by omega, by simp only [ByteArray.size_append] at sB ⊢; omega⟩, exec_end]
 congr 1
 all_goals (apply ByteArray.ext; simp [ByteArray.data_append, Array.append_assoc, saidB, okB, melSB])
 rw [← Array.append_assoc]
 rfl
theorem wn_app (w a b : ByteArray) : (w ++ a) ++ b = w ++ (a ++ b) := by
 apply ByteArray.ext
 simp [ByteArray.data_append, Array.append_assoc]
theorem FnExecuteMelody : ∀ (l0 : List Int), l0.length ≤ maxLen → l0.length * 1 ≤ 140737488351232 → (∀ n ∈ l0, (Lit.int .u8 n).wf = true) → ∃ k, laws_FnExecuteMelody.f k l0 = some true := by
 intro l0 z1 z2 hw
 refine ⟨20050, ?_⟩
 unfold laws_FnExecuteMelody.f
 by_cases h : (l0.length : Int) > 1048576
 ·rw [if_pos h]
 ·rw [if_neg h]
  obtain ⟨o, ho, hR⟩ := open_f l0 (bytes_of hw)
  obtain ⟨m, q, hm, q0, q1, hq⟩ := mel_d o hR 0 10 (by omega) (by omega) (by omega)
  have hd : spec_DrawSingBest.f 20050 l0 = some m := by
   unfold spec_DrawSingBest.f
   rw [ho]
   simp only [Option.bind_some]
   have := hq 20050 (by omega)
   rw [show ((10 : Nat) : Int) = 10 from rfl] at this
   rw [this]
   rfl
  rw [hd, Option.bind_some, besti_f m 20050 (by omega), Option.bind_some, bests_f m (by omega) 20050 (by omega), Option.bind_some, bne_self_eq_false, if_neg (by decide)]
  have hBl : (BST m).1.length ≤ 24 := by
   unfold BST
   by_cases hs : SB m = true
   ·rw [if_pos hs]
    show (best none (rowsOf m)).length ≤ 24
    rw [best_len, rows_len]
    omega
   ·rw [if_neg hs]
    simp
  rw [sameI_f _ 20050 (by omega) (by omega), Option.bind_some, if_pos rfl]
  by_cases hs : SB m = true
  ·obtain ⟨hM, fu⟩ := (SB_iff m).1 hs
   have e : BST m = (best none (rowsOf m), true) := by unfold BST; rw [if_pos hs]
   have hfit := best_fits (rowsOf m) none fu (rows_asc m)
   have hSO : SO m (best none (rowsOf m)) = true := SO_iff.2 ⟨hM, hfit⟩
   have hLn : (best none (rowsOf m)).length = m.length := by rw [best_len, rows_len]
   rw [e]
   obtain ⟨L, hLd⟩ : ∃ L, L = best none (rowsOf m) := ⟨_, rfl⟩
   rw [← hLd] at e hSO hLn ⊢
   simp only [laws_FnExecuteMelody.j0]
   rw [if_neg (by decide)]
   by_cases h0 : m.length = 0
   ·rw [if_pos (by omega), hLn, h0]
    rfl
   ·have ha : m.all tvv = true := by unfold MV at hM; rw [Bool.and_eq_true] at hM; exact hM.2
    have hsb := steps_bd m (List.all_eq_true.1 ha)
    have hsl := stepsL m
    have hT := mjoin_size hM
    rw [if_neg (by omega), mti_f m 20049 (by omega), if_pos hM, Option.bind_some, mst_f m hM h0 20049 (by omega), Option.bind_some]
    have hex : ∀ k, 19998 ≤ k → impl_Execute.f k _ = some _ := fun k hk => mono_to (f := fun k => impl_Execute.f k _) (fun j => impl_Execute.mono _ j) hk (exec_mel m L hM h0 hLn e hSO)
    have hJ := joinSp_size m L m.length
    rw [List.take_of_length_le (by rw [singNames_len hLn]; exact Nat.le_refl _)] at hJ
    have hW := wn_size (stepsOf m) stB hsb
    have s1 : (⟨#[109, 101, 108, 111, 100, 121, 32]⟩ : ByteArray).size = 7 := rfl
    have s2 : (⟨#[111, 107, 10, 109, 101, 108, 111, 100, 121, 32]⟩ : ByteArray).size = 10 := rfl
    have s3 : stB.size = 5 := rfl
    have s5 : (⟨#[10]⟩ : ByteArray).size = 1 := rfl
    have s7 : (⟨#[32]⟩ : ByteArray).size = 1 := rfl
    have s6 := end_size m.length
    have loop : ∀ (d i k : Nat) (w : ByteArray), i + d = (stepsOf m).length → 20000 + d ≤ k → w.size ≤ 5 + 4 * i → wn w ((stepsOf m).drop i) = wn stB (stepsOf m) → laws_FnExecuteMelody.l0 k m L (mjoin (m.map ttx)) w (stepsOf m) (i : Int) = some true := by
     intro d
     induction d with
     | zero =>
      intro i k w hi hk hw0 hwn
      obtain ⟨k, rfl⟩ : ∃ m, k = m + 1 := ⟨k - 1, by omega⟩
      rw [List.drop_eq_nil_of_le (by omega), wn] at hwn
      subst hwn
      simp only [laws_FnExecuteMelody.l0]
      rw [if_neg (by omega), if_pos (by omega), if_pos (by simp only [ByteArray.size_append]; omega), hex k (by omega), Option.bind_some, if_pos (by omega), if_pos (by simp only [ByteArray.size_append]; omega), if_pos (by simp only [ByteArray.size_append]; omega), if_pos (by simp only [ByteArray.size_append]; omega), sti_f m L k (by omega), if_pos hSO, Option.bind_some, if_pos (by simp only [ByteArray.size_append]; omega), if_pos (by simp only [ByteArray.size_append]; omega), end_f m.length (by omega) k (by omega), Option.bind_some, if_pos (by simp only [ByteArray.size_append]; omega), beq_self_eq_true]
     | succ d ih =>
      intro i k w hi hk hw0 hwn
      obtain ⟨k, rfl⟩ : ∃ m, k = m + 1 := ⟨k - 1, by omega⟩
      have hlt : i < (stepsOf m).length := by omega
      have hb := hsb _ (List.getElem_mem hlt)
      have h1 := (sg_ok hb.1 hb.2).2
      simp only [laws_FnExecuteMelody.l0]
      rw [if_pos (by omega), if_pos (by omega), if_pos (by omega), rdi_at _ i hlt, sg_f hb.1 hb.2 k (by omega), Option.bind_some, if_pos (by rw [ByteArray.size_append]; omega), w1 (by omega)]
      refine ih (i + 1) k _ (by omega) (by omega) (by rw [ByteArray.size_append, ByteArray.size_append]; omega) ?_
      rw [← hwn, List.drop_eq_getElem_cons hlt, wn, wn_app]
    have h1 := loop (stepsOf m).length 0 20049 stB (by omega) (by omega) (by omega) (by rw [List.drop_zero])
    rw [show ((0 : Nat) : Int) = 0 from rfl] at h1
    exact h1
  ·have e : BST m = ([], false) := by unfold BST; rw [if_neg hs]
   rw [e]
   simp only [laws_FnExecuteMelody.j0]
   rw [if_pos (by decide), if_pos (by decide), sameI_f _ 20049 (by simp) (by simp), Option.bind_some]

end Go.Proofs.YtjnkmckklmabcaaGreatDoor.PureFnExecuteMelody
