/- FnExecuteMode: for every list of at most 1048576 bytes, the law of Execute's mode, enter and find holds of the chant that the reference draws from it, and the list reads as before (longer lists the statement lets pass). The tables modeRows, letterNames and letterHeights are tied to the text of the program; of the library's own variable internal/bytealg.MaxLen the shape of the world alone is used. No condition beyond the own ones of the statement. -/
import Derived.Test.YtkdlfnakbilhjaaGreatDoorXKx0
import Derived.Test.YtkdlfnakbilhjaaGreatDoorXKx6
import Derived.Test.YtkdlfnakbilhjaaGreatDoorXKx2
import Derived.Test.YtkdlfnakbilhjaaGreatDoorXKx10
import Derived.Test.YtkdlfnakbilhjaaGreatDoorXKx3
import Derived.Test.YtkdlfnakbilhjaaGreatDoorXKx8
import Derived.Test.YtkdlfnakbilhjaaGreatDoorXKx7
import Derived.Test.YtkdlfnakbilhjaaGreatDoorXKx9
import Derived.Test.YtkdlfnakbilhjaaGreatDoorXKx5
import Derived.Test.YtkdlfnakbilhjaaGreatDoorXKx4
import Derived.Laws.Bits64
namespace Go.Proofs.YtkdlfnakbilhjaaGreatDoor.PureFnExecuteMode
open Go.RowKit Go.Proofs.YtkdlfnakbilhjaaGreatDoor.XK Go.Proofs.YtkdlfnakbilhjaaGreatDoorW.PrintWords Go.Proofs.YtkdlfnakbilhjaaGreatDoorW.PrintLast Go.Proofs.YtkdlfnakbilhjaaGreatDoorW.PrintMore 
set_option linter.unusedVariables false
set_option linter.unusedSimpArgs false
theorem w1 {i : Nat} (h : i < 4611686018427387904) : wrap64 ((i : Int) + 1) = ((i + 1 : Nat) : Int) := by
  unfold wrap64
  omega
theorem w0 {i : Int} (h : -9223372036854775808 ≤ i) (h' : i ≤ 9223372036854775807) : wrap64 i = i := by
  unfold wrap64
  omega
theorem rd_at (xs : List Int) (i : Nat) (h : i < xs.length) : rd xs (i : Int) = xs[i] := by
  simp [rd, List.getD_eq_getElem?_getD, h]
/-- A tone of the gamut. -/
def tv (a : Int) (b : Bool) : Bool := decide (0 ≤ a) && (decide (a ≤ 20) && (!b || decide (Int.tmod a 7 = 2)))
theorem tv_spec (a : Int) (b : Bool) : spec_ToneValid.f a b = some (tv a b) := by
  unfold spec_ToneValid.f spec_l6In.f spec_l1Letter.f tv
  by_cases h0 : a ≥ 0
  · rw [if_pos h0, decide_eq_true (show 0 ≤ a from h0)]
    by_cases h1 : a ≤ 20
    · simp only [h1, decide_true, Option.bind_some, if_true, Bool.true_and]
      cases b
      · rfl
      · simp
        rfl
    · simp [h1]
  · rw [if_neg h0, decide_eq_false (show ¬ 0 ≤ a from h0)]
    rfl
theorem tv_impl (a : Int) (b : Bool) : impl_Tone_valid.f a b = some (tv a b) := by
  unfold impl_Tone_valid.f tv
  by_cases h0 : a ≥ 0
  · rw [if_pos h0, decide_eq_true (show 0 ≤ a from h0)]
    by_cases h1 : a ≤ 20
    · rw [if_pos h1, decide_eq_true h1]
      cases b
      · rfl
      · simp
        rfl
    · rw [if_neg h1, decide_eq_false h1]
      rfl
  · rw [if_neg h0, decide_eq_false (show ¬ 0 ≤ a from h0)]
    rfl
theorem in_spec (a b c : Int) : spec_l6In.f a b c = some (decide (b ≤ a) && decide (a ≤ c)) := by
  unfold spec_l6In.f
  by_cases h0 : a ≥ b
  · rw [if_pos h0, decide_eq_true (show b ≤ a from h0)]; rfl
  · rw [if_neg h0, decide_eq_false (show ¬ b ≤ a from h0)]; rfl
def tvv (t : S49) : Bool := tv t.f0 t.f1
theorem rdt_at (xs : List S49) (i : Nat) (h : i < xs.length) : rd_T49 xs (i : Int) = xs[i] := by
  simp [rd_T49, List.getD_eq_getElem?_getD, h]
def MV (l : List S49) : Bool := decide (l.length ≤ 24) && l.all tvv
theorem mvs_l0 (l : List S49) (hb : l.length < 4611686018427387904) : ∀ (d i k : Nat), i + d = l.length → d < k → (l.take i).all tvv = true → spec_MelodyValid.l0 k l (i : Int) = some (MV l) := by
  intro d
  induction d with
  | zero =>
    intro i k hi hk hv
    obtain ⟨k, rfl⟩ : ∃ m, k = m + 1 := ⟨k - 1, by omega⟩
    rw [List.take_of_length_le (by omega)] at hv
    simp only [spec_MelodyValid.l0]
    rw [if_neg (by omega)]
    unfold MV
    rw [hv, Bool.and_true]
    congr 1
    rw [decide_eq_decide]
    omega
  | succ d ih =>
    intro i k hi hk hv
    obtain ⟨k, rfl⟩ : ∃ m, k = m + 1 := ⟨k - 1, by omega⟩
    have hx : i < l.length := by omega
    simp only [spec_MelodyValid.l0]
    rw [if_pos (by omega), if_pos (by omega), rdt_at l i hx, tv_spec]
    simp only [Option.bind_some]
    by_cases hvi : tv l[i].f0 l[i].f1 = true
    · rw [if_pos hvi, w1 (by omega)]
      refine ih (i + 1) k (by omega) (by omega) ?_
      rw [List.take_succ_eq_append_getElem hx, List.all_append, hv]
      simp [tvv, hvi]
    · rw [if_neg hvi]
      have : l.all tvv = false := by
        rw [Bool.eq_false_iff]
        intro h
        exact hvi (List.all_eq_true.1 h _ (List.getElem_mem hx))
      unfold MV
      rw [this, Bool.and_false]
theorem mvs_f (l : List S49) (hb : l.length ≤ 1048576) (k : Nat) (hk : l.length < k) : spec_MelodyValid.f k l = some (MV l) := by
  unfold spec_MelodyValid.f
  simpa using mvs_l0 l (by omega) l.length 0 k (by omega) (by omega) (by simp)
theorem mvi_l0 (l : List S49) (hb : l.length < 4611686018427387904) : ∀ (d i k : Nat), i + d = l.length → d < k → impl_MelodyValid.l0 k l (l.length : Int) (i : Int) = some ((l.drop i).all tvv) := by
  intro d
  induction d with
  | zero =>
    intro i k hi hk
    obtain ⟨k, rfl⟩ : ∃ m, k = m + 1 := ⟨k - 1, by omega⟩
    simp only [impl_MelodyValid.l0]
    rw [if_neg (by omega), List.drop_eq_nil_of_le (by omega)]
    rfl
  | succ d ih =>
    intro i k hi hk
    obtain ⟨k, rfl⟩ : ∃ m, k = m + 1 := ⟨k - 1, by omega⟩
    have hx : i < l.length := by omega
    simp only [impl_MelodyValid.l0]
    rw [if_pos (by omega), if_pos (by omega), if_pos (by omega), rdt_at l i hx, tv_impl, List.drop_eq_getElem_cons hx, List.all_cons]
    simp only [Option.bind_some]
    by_cases ht : tv l[i].f0 l[i].f1 = true
    · rw [if_pos ht, w1 (by omega), ih (i + 1) k (by omega) (by omega), show tvv l[i] = true from ht, Bool.true_and]
    · rw [if_neg ht, show tvv l[i] = false from Bool.eq_false_iff.mpr ht, Bool.false_and]
theorem mvi_f (l : List S49) (k : Nat) (hk : 25 ≤ k) : impl_MelodyValid.f k l = some (MV l) := by
  unfold impl_MelodyValid.f MV
  by_cases h : l.length ≤ 24
  · rw [if_neg (by omega), decide_eq_true h, Bool.true_and]
    simpa using mvi_l0 l (by omega) l.length 0 k (by omega) (by omega)
  · rw [if_pos (by omega), decide_eq_false h, Bool.false_and]

theorem mjoin_append (xs ys : List ByteArray) (hx : xs ≠ []) (hy : ys ≠ []) : mjoin (xs ++ ys) = mjoin xs ++ ⟨#[32]⟩ ++ mjoin ys := by
  cases xs with
  | nil => exact absurd rfl hx
  | cons x r =>
    cases ys with
    | nil => exact absurd rfl hy
    | cons y s =>
      apply ByteArray.ext
      rw [ByteArray.data_append, ByteArray.data_append]
      apply Array.ext'
      unfold mjoin
      simp [Lib.join_cons, Lib.joinTail, List.append_assoc]
theorem mti_f (l : List S49) (k : Nat) (hk : 25 ≤ k) : impl_MelodyText.f k l = some (if MV l = true then mjoin (l.map ttx) else ⟨#[]⟩) := by
  unfold impl_MelodyText.f
  rw [mvi_f l k hk, Option.bind_some]
theorem mjoin_size {l : List S49} (h : MV l = true) : (mjoin (l.map ttx)).size ≤ 96 := by
  have h1 := mvi_f l 25 (by omega)
  rw [h] at h1
  obtain ⟨h2, h3⟩ := mv_facts h1
  have := mt_small l h3
  show (Lib.join ((l.map ttx).map (·.data.toList)) [32]).length ≤ 96
  omega
theorem tv_bd {a : Int} {b : Bool} (h : tv a b = true) : 0 ≤ a ∧ a ≤ 20 := by
  unfold tv at h
  simp only [Bool.and_eq_true, decide_eq_true_eq] at h
  exact ⟨h.1, h.2.1⟩
def tfOk' (s : ByteArray) (m : Nat) (b : Bool) : Bool := (impl_Tone_valid.f (m : Int) b == some true) && (((impl_Tone_text.f (m : Int) b).getD ⟨#[]⟩).data.toList == s.data.toList)
def tfGo' (s : ByteArray) : Nat → Nat → S49 × Bool
  | 0, _ => (⟨0, false⟩, false)
  | d + 1, m => if tfOk' s m false = true then (⟨(m : Int), false⟩, true) else if tfOk' s m true = true then (⟨(m : Int), true⟩, true) else tfGo' s d (m + 1)
theorem tfOk_eq (s : ByteArray) (m : Nat) (b : Bool) : tfOk s m b = tfOk' s m b := by
  unfold tfOk tfOk'
  rw [ByteArray.toList_eq, ByteArray.toList_eq]
theorem tfGo_eq (s : ByteArray) : ∀ d m, tfGo s d m = tfGo' s d m
  | 0, _ => rfl
  | d + 1, m => by
    simp only [tfGo, tfGo']
    rw [tfOk_eq, tfOk_eq, tfGo_eq s d (m + 1)]
theorem tf_dec : ∀ m, m < 21 → ∀ b : Bool, tv ((m : Nat) : Int) b = true → (tfGo' ((impl_Tone_text.f (m : Int) b).getD ⟨#[]⟩) 21 0).1.f0 = (m : Int) ∧ (tfGo' ((impl_Tone_text.f (m : Int) b).getD ⟨#[]⟩) 21 0).1.f1 = b ∧ (tfGo' ((impl_Tone_text.f (m : Int) b).getD ⟨#[]⟩) 21 0).2 = true := by decide +kernel
theorem tf_ttx {t : S49} (h : tvv t = true) : tfGo (ttx t) 21 0 = (t, true) := by
  obtain ⟨a, b⟩ := t
  have hb := tv_bd (show tv a b = true from h)
  obtain ⟨m, rfl⟩ := Int.eq_ofNat_of_zero_le hb.1
  obtain ⟨h1, h2, h3⟩ := tf_dec m (by omega) b h
  rw [tfGo_eq]
  show tfGo' ((impl_Tone_text.f (m : Int) b).getD ⟨#[]⟩) 21 0 = _
  generalize tfGo' ((impl_Tone_text.f (m : Int) b).getD ⟨#[]⟩) 21 0 = P at h1 h2 h3 ⊢
  obtain ⟨⟨x, y⟩, z⟩ := P
  have g1 : x = (m : Int) := h1
  have g2 : y = b := h2
  have g3 : z = true := h3
  rw [g1, g2, g3]
theorem ttx_all : ∀ m, m < 21 → ∀ b : Bool, ((impl_Tone_text.f ((m : Nat) : Int) b).getD ⟨#[]⟩).data.toList ≠ [] ∧ ¬ (32 : UInt8) ∈ ((impl_Tone_text.f ((m : Nat) : Int) b).getD ⟨#[]⟩).data.toList := by decide +kernel
theorem ttx_facts {t : S49} (h : tvv t = true) : (ttx t).data.toList ≠ [] ∧ ¬ (32 : UInt8) ∈ (ttx t).data.toList := by
  obtain ⟨a, b⟩ := t
  have hb := tv_bd (show tv a b = true from h)
  obtain ⟨m, rfl⟩ := Int.eq_ofNat_of_zero_le hb.1
  exact ttx_all m (by omega) b
theorem idx_miss : ∀ l : List UInt8, ¬ (32 : UInt8) ∈ l → Lib.index l [32] = -1
  | [], _ => rfl
  | b :: l, h => by
    have ih := idx_miss l (fun x => h (List.mem_cons_of_mem _ x))
    have hb : (32 : UInt8) ≠ b := fun e => h (by rw [e]; exact List.mem_cons_self ..)
    unfold Lib.index
    rw [if_neg (by simpa [List.isPrefixOf] using hb), ih]
    rfl
theorem idx_hit : ∀ (l r : List UInt8), ¬ (32 : UInt8) ∈ l → Lib.index (l ++ 32 :: r) [32] = (l.length : Int)
  | [], r, _ => by
    show Lib.index (32 :: r) [32] = 0
    unfold Lib.index
    rw [if_pos (by simp [List.isPrefixOf])]
  | b :: l, r, h => by
    have ih := idx_hit l r (fun x => h (List.mem_cons_of_mem _ x))
    have hb : (32 : UInt8) ≠ b := fun e => h (by rw [e]; exact List.mem_cons_self ..)
    rw [List.cons_append]
    unfold Lib.index
    rw [if_neg (by simpa [List.isPrefixOf] using hb), ih, if_neg (by simp), List.length_cons]
    omega
theorem split_join : ∀ xs : List (List UInt8), xs ≠ [] → (∀ x ∈ xs, ¬ (32 : UInt8) ∈ x) → Lib.splitK [32] 0 (Lib.count (Lib.join xs [32]) [32]) (Lib.join xs [32]) = xs
  | [], h, _ => absurd rfl h
  | [x], _, h => by
    rw [Lib.join_one]
    have hx := idx_miss x (h x (List.mem_singleton.2 rfl))
    cases Lib.count x [32] with
    | zero => rfl
    | succ k =>
      unfold Lib.splitK
      rw [hx, if_pos (by rfl)]
  | x :: y :: r, _, h => by
    have ih := split_join (y :: r) (by simp) (fun z hz => h z (List.mem_cons_of_mem _ hz))
    have hx := h x (List.mem_cons_self ..)
    have e : Lib.join (x :: y :: r) [32] = x ++ 32 :: Lib.join (y :: r) [32] := by
      rw [Lib.join_cons, Lib.join_cons]
      simp [Lib.joinTail]
    rw [e]
    have hi := idx_hit x (Lib.join (y :: r) [32]) hx
    have hc := Lib.count_hit (s := x ++ 32 :: Lib.join (y :: r) [32]) (sub := [32]) (by simp) hi
    have hd : (x ++ 32 :: Lib.join (y :: r) [32]).drop (x.length + 1) = Lib.join (y :: r) [32] := by
      rw [List.drop_append, List.drop_eq_nil_of_le (by omega), List.nil_append, show x.length + 1 - x.length = 1 by omega]
      rfl
    rw [show x.length + [(32 : UInt8)].length = x.length + 1 from rfl, hd] at hc
    rw [hc, Nat.add_comm]
    unfold Lib.splitK
    rw [hi, if_neg (by simp)]
    have e2 : ((x.length : Nat) : Int).toNat = x.length := Int.toNat_natCast _
    rw [e2, show x.length + [(32 : UInt8)].length = x.length + 1 from rfl, hd, ih, Nat.add_zero, List.take_append_of_le_length (Nat.le_refl _), List.take_length]
theorem map_data_inj : ∀ a b : List ByteArray, a.map (·.data.toList) = b.map (·.data.toList) → a = b
  | [], [], _ => rfl
  | [], y :: b, h => by simp at h
  | x :: a, [], h => by simp at h
  | x :: a, y :: b, h => by
    rw [List.map_cons, List.map_cons] at h
    obtain ⟨h1, h2⟩ := List.cons.inj h
    rw [map_data_inj a b h2]
    congr 1
    apply ByteArray.ext
    exact Array.ext' h1
theorem splitW_join (ws : List ByteArray) (h0 : ws ≠ []) (h : ∀ x ∈ ws, ¬ (32 : UInt8) ∈ x.data.toList) : splitW (mjoin ws) = ws := by
  apply map_data_inj
  unfold splitW
  rw [Lib.splitB_data]
  refine split_join (ws.map (·.data.toList)) (by simpa using h0) ?_
  intro x hx
  obtain ⟨b, hb, rfl⟩ := List.mem_map.1 hx
  exact h b hb
theorem mfGo_ttx : ∀ (l acc : List S49), l.all tvv = true → acc.length + l.length ≤ 24 → mfGo (l.map ttx) acc = some (acc ++ l)
  | [], acc, _, _ => by simp [mfGo]
  | t :: l, acc, h, hl => by
    rw [List.all_cons, Bool.and_eq_true] at h
    rw [List.length_cons] at hl
    rw [List.map_cons]
    simp only [mfGo]
    rw [tf_ttx h.1, if_neg (by simp), if_neg (by omega), mfGo_ttx l _ h.2 (by rw [List.length_append]; simp; omega), List.append_assoc]
    rfl
theorem xor_nn (a b : Int) (ha : 0 ≤ a) (ha' : a < 4611686018427387904) (hb : 0 ≤ b) (hb' : b < 4611686018427387904) : 0 ≤ Go.bits .xor .i64 a b := by
  obtain ⟨x, rfl⟩ := Int.eq_ofNat_of_zero_le ha
  obtain ⟨y, rfl⟩ := Int.eq_ofNat_of_zero_le hb
  have hx : x ^^^ y < 2 ^ 62 := Nat.xor_lt_two_pow (by omega) (by omega)
  have h1 : (BitVec.ofInt 64 (x : Int)).toNat = x := by
    rw [BitVec.ofInt_natCast, BitVec.toNat_ofNat]; exact Nat.mod_eq_of_lt (by omega)
  have h2 : (BitVec.ofInt 64 (y : Int)).toNat = y := by
    rw [BitVec.ofInt_natCast, BitVec.toNat_ofNat]; exact Nat.mod_eq_of_lt (by omega)
  have e : Go.bits .xor .i64 (x : Int) (y : Int) = IntKind.i64.wrap (((x ^^^ y : Nat)) : Int) := by
    show IntKind.i64.wrap ((BitVec.ofInt 64 (x : Int) ^^^ BitVec.ofInt 64 (y : Int)).toNat : Int) = _
    rw [BitVec.toNat_xor, h1, h2]
  rw [e, IntWalk.i64_in _ (by omega)]
  omega
/-- A list of bytes. -/
def Bytes (l : List Int) : Prop := ∀ n ∈ l, 0 ≤ n ∧ n ≤ 255
theorem rd_byte {l : List Int} (h : Bytes l) (i : Int) (h0 : 0 ≤ i) (h1 : i < (l.length : Int)) : 0 ≤ rd l i ∧ rd l i ≤ 255 := by
  obtain ⟨n, rfl⟩ := Int.eq_ofNat_of_zero_le h0
  have hn : n < l.length := by omega
  rw [rd_at l n hn]
  exact h _ (List.getElem_mem hn)
theorem tm_bd (a n : Int) (ha : 0 ≤ a) (hn : 0 < n) : 0 ≤ Int.tmod a n ∧ Int.tmod a n < n := by
  rw [Int.tmod_eq_emod_of_nonneg ha]
  exact ⟨Int.emod_nonneg _ (by omega), Int.emod_lt_of_pos _ hn⟩
theorem td_bd (a n : Int) (ha : 0 ≤ a) (hn : 0 < n) : 0 ≤ Int.tdiv a n ∧ Int.tdiv a n ≤ a := by
  rw [Int.tdiv_eq_ediv_of_nonneg ha]
  exact ⟨Int.ediv_nonneg ha (by omega), Int.ediv_le_self _ ha⟩
theorem pick_some (l : List Int) (hl : Bytes l) (hn : l.length ≤ 2000) (p n : Int) (hp : 0 ≤ p) (hp' : p ≤ 1000000) (h1 : 1 ≤ n) (h2 : n ≤ 1000000) :
    ∃ v, 0 ≤ v ∧ v < n ∧ ∀ k, spec_l6Rd_pick.f (k + 1) l p n = some (v, p + 1) := by
  unfold spec_l6Rd_pick.f
  simp only [spec_l6Rd_pick.j0]
  rw [if_neg (show ¬ n < 1 by omega), w0 (i := p + 1) (by omega) (by omega), show p + 1 - 1 = p by omega, w0 (i := p) (by omega) (by omega)]
  by_cases hl0 : l.length = 0
  · refine ⟨0, by omega, by omega, fun k => ?_⟩
    rw [if_pos (show ((l.length : Int) == 0) = true by rw [hl0]; rfl)]
  · rw [if_neg (show ¬ (((l.length : Int) == 0) = true) from fun h => hl0 (by have := beq_iff_eq.1 h; omega))]
    have hlp : (0 : Int) < (l.length : Int) := by omega
    by_cases hpl : p < (l.length : Int)
    · obtain ⟨b0, b1⟩ := rd_byte hl p hp hpl
      rw [if_pos hpl, if_pos hp, if_neg (show ¬ n = 0 by omega), w0 (i := rd l p) (by omega) (by omega)]
      obtain ⟨t0, t1⟩ := tm_bd (rd l p) n b0 (by omega)
      exact ⟨_, t0, t1, fun _ => rfl⟩
    · rw [if_neg hpl, if_neg (show ¬ (l.length : Int) = 0 by omega), w0 (i := p * 7) (by omega) (by omega), w0 (i := p * 7 + 3) (by omega) (by omega)]
      obtain ⟨i0, i1⟩ := tm_bd p (l.length : Int) hp hlp
      obtain ⟨j0, j1⟩ := tm_bd (p * 7 + 3) (l.length : Int) (by omega) hlp
      obtain ⟨q0, q1⟩ := td_bd p (l.length : Int) hp hlp
      rw [if_pos i0, if_pos i1, if_pos j0, if_pos j1, if_neg (show ¬ n = 0 by omega)]
      obtain ⟨a0, a1⟩ := rd_byte hl _ i0 i1
      obtain ⟨b0, b1⟩ := rd_byte hl _ j0 j1
      generalize rd l (Int.tmod p (l.length : Int)) = a at a0 a1 ⊢
      generalize rd l (Int.tmod (p * 7 + 3) (l.length : Int)) = b at b0 b1 ⊢
      generalize Int.tdiv p (l.length : Int) = q at q0 q1 ⊢
      simp (disch := omega) only [w0]
      have x0 : 0 ≤ a * 131 + b * 1117 + p * 29 + q * 53 := by omega
      obtain ⟨d0, d1⟩ := td_bd (a * 131 + b * 1117 + p * 29 + q * 53) 64 x0 (by omega)
      rw [w0 (i := Int.tdiv (a * 131 + b * 1117 + p * 29 + q * 53) 64) (by omega) (by omega)]
      obtain ⟨t0, t1⟩ := tm_bd (Go.bits .xor .i64 (a * 131 + b * 1117 + p * 29 + q * 53) (Int.tdiv (a * 131 + b * 1117 + p * 29 + q * 53) 64)) n (xor_nn _ _ x0 (by omega) d0 (by omega)) (by omega)
      exact ⟨_, t0, t1, fun _ => rfl⟩
/-- What a reader's pick answers. -/
def pk (l : List Int) (p n : Int) : Int := ((spec_l6Rd_pick.f 1 l p n).getD (0, 0)).1
structure Rdr (l : List Int) : Prop where
  bytes : Bytes l
  len : l.length ≤ 2000
theorem pk_f {l : List Int} (h : Rdr l) (p n : Int) (k : Nat) (hp : 0 ≤ p) (hp' : p ≤ 1000000) (h1 : 1 ≤ n) (h2 : n ≤ 1000000) (hk : 1 ≤ k) : spec_l6Rd_pick.f k l p n = some (pk l p n, p + 1) := by
  obtain ⟨v, _, _, hv⟩ := pick_some l h.bytes h.len p n hp hp' h1 h2
  unfold pk
  rw [hv 0]
  obtain ⟨k, rfl⟩ : ∃ m, k = m + 1 := ⟨k - 1, by omega⟩
  rw [hv k]
  rfl
theorem pk_bd {l : List Int} (h : Rdr l) (p n : Int) (hp : 0 ≤ p) (hp' : p ≤ 1000000) (h1 : 1 ≤ n) (h2 : n ≤ 1000000) : 0 ≤ pk l p n ∧ pk l p n < n := by
  obtain ⟨v, h3, h4, hv⟩ := pick_some l h.bytes h.len p n hp hp' h1 h2
  unfold pk
  rw [hv 0]
  exact ⟨h3, h4⟩
theorem open_f (l : List Int) (hl : Bytes l) : ∃ s, spec_l6Open.f l = some (s, 0) ∧ Rdr s := by
  unfold spec_l6Open.f
  by_cases h : (l.length : Int) > 2000
  · rw [if_pos h, if_pos (by omega)]
    exact ⟨_, rfl, ⟨fun n hn => hl n (List.mem_of_mem_take hn), by simp; omega⟩⟩
  · rw [if_neg h]
    exact ⟨_, rfl, ⟨hl, by omega⟩⟩
theorem bytes_of {l : List Int} (h : ∀ n ∈ l, (Lit.int .u8 n).wf = true) : Bytes l := fun n hn => by
  have := h n hn
  simp [Lit.wf, IntKind.min, IntKind.max, IntKind.signed, IntKind.bits] at this
  omega
theorem letter_f (a : Int) : spec_l1Letter.f a = some (Int.tmod a 7) := rfl
theorem clamp_bd (a b x : Int) (h : a ≤ b) : a ≤ mx a (mn b x) ∧ mx a (mn b x) ≤ b := by
  unfold mx mn
  constructor <;> (repeat' split) <;> omega
theorem mel_end (l : List Int) (h : Rdr l) (acc : List S49) (n : Nat) (x p : Int) (hn : n ≤ 20) (ha : acc.length = n) (hp : 0 ≤ p) (hp' : p ≤ 100000) :
    ∃ m q, m.length = n ∧ p ≤ q ∧ q ≤ p + 2 ∧ ∀ k, 2 ≤ k → spec_l91Melody.l0 k acc (n : Int) x (n : Int) l p = some (m, q) := by
  by_cases h0 : n = 0
  · refine ⟨acc, p, ha, by omega, by omega, fun k hk => ?_⟩
    obtain ⟨k, rfl⟩ : ∃ m, k = m + 1 := ⟨k - 1, by omega⟩
    simp only [spec_l91Melody.l0]
    rw [if_neg (by omega), if_neg (by omega)]
  · by_cases h1 : pk l p 50 = 0
    · obtain ⟨v0, v1⟩ := pk_bd h (p + 1) 3 (by omega) (by omega) (by omega) (by omega)
      refine ⟨acc.set (0 : Int).toNat ⟨rd ([-1, 21, 20] : List Int) (pk l (p + 1) 3), (rd_T49 acc 0).f1⟩, p + 1 + 1, by simp [ha], by omega, by omega, fun k hk => ?_⟩
      obtain ⟨k, rfl⟩ : ∃ m, k = m + 1 := ⟨k - 1, by omega⟩
      simp only [spec_l91Melody.l0]
      rw [if_neg (by omega), if_pos (by omega), pk_f h p 50 k (by omega) (by omega) (by omega) (by omega) (by omega)]
      simp only [Option.bind_some]
      rw [if_pos h1, pk_f h (p + 1) 3 k (by omega) (by omega) (by omega) (by omega) (by omega)]
      simp only [Option.bind_some]
      rw [if_pos v0, if_pos (by simpa using v1), if_pos (by omega)]
    · by_cases h2 : pk l p 50 = 1
      · have e : wrap64 ((n : Int) - 1) = ((n - 1 : Nat) : Int) := by rw [w0 (by omega) (by omega)]; omega
        refine ⟨acc.set (((n - 1 : Nat) : Int)).toNat ⟨(rd_T49 acc ((n - 1 : Nat) : Int)).f0, true⟩, p + 1, by simp [ha], by omega, by omega, fun k hk => ?_⟩
        obtain ⟨k, rfl⟩ : ∃ m, k = m + 1 := ⟨k - 1, by omega⟩
        simp only [spec_l91Melody.l0]
        rw [if_neg (by omega), if_pos (by omega), pk_f h p 50 k (by omega) (by omega) (by omega) (by omega) (by omega)]
        simp only [Option.bind_some]
        rw [if_neg h1, if_pos h2, e, if_pos (by omega), if_pos (by omega)]
      · refine ⟨acc, p + 1, ha, by omega, by omega, fun k hk => ?_⟩
        obtain ⟨k, rfl⟩ : ∃ m, k = m + 1 := ⟨k - 1, by omega⟩
        simp only [spec_l91Melody.l0]
        rw [if_neg (by omega), if_pos (by omega), pk_f h p 50 k (by omega) (by omega) (by omega) (by omega) (by omega)]
        simp only [Option.bind_some]
        rw [if_neg h1, if_neg h2]
theorem mel_l0 (l : List Int) (h : Rdr l) (n : Nat) (hn : n ≤ 20) : ∀ (d i : Nat) (acc : List S49) (x p : Int), i + d = n → acc.length = i → 0 ≤ x → x ≤ 20 → 0 ≤ p → p ≤ 10000 + 2 * i →
    ∃ m q, m.length = n ∧ p ≤ q ∧ q ≤ p + 2 * d + 2 ∧ ∀ k, d + 2 ≤ k → spec_l91Melody.l0 k acc (n : Int) x (i : Int) l p = some (m, q) := by
  intro d
  induction d with
  | zero =>
    intro i acc x p hi ha h0 h1 hp hp'
    have e : i = n := by omega
    subst e
    obtain ⟨m, q, hm, q0, q1, hq⟩ := mel_end l h acc i x p hn ha hp (by omega)
    exact ⟨m, q, hm, q0, by omega, fun k hk => hq k (by omega)⟩
  | succ d ih =>
    intro i acc x p hi ha h0 h1 hp hp'
    by_cases hx : Int.tmod x 7 = 2
    · obtain ⟨v0, v1⟩ := pk_bd h (p + 1) 5 (by omega) (by omega) (by omega) (by omega)
      obtain ⟨c0, c1⟩ := clamp_bd 1 15 (x + pk l (p + 1) 5 - 2) (by omega)
      obtain ⟨m, q, hm, q0, q1, hq⟩ := ih (i + 1) (acc ++ [⟨x, pk l p 3 == 0⟩]) (mx 1 (mn 15 (x + pk l (p + 1) 5 - 2))) (p + 1 + 1) (by omega) (by simp [ha]) (by omega) (by omega) (by omega) (by omega)
      refine ⟨m, q, hm, by omega, by omega, fun k hk => ?_⟩
      obtain ⟨k, rfl⟩ : ∃ m, k = m + 1 := ⟨k - 1, by omega⟩
      simp only [spec_l91Melody.l0]
      rw [if_pos (by omega), letter_f]
      simp only [Option.bind_some]
      rw [if_pos hx, pk_f h p 3 k (by omega) (by omega) (by omega) (by omega) (by omega)]
      simp only [Option.bind_some]
      rw [if_pos (by omega), pk_f h (p + 1) 5 k (by omega) (by omega) (by omega) (by omega) (by omega)]
      simp only [Option.bind_some]
      rw [w1 (by omega), w0 (i := x + pk l (p + 1) 5) (by omega) (by omega), w0 (i := x + pk l (p + 1) 5 - 2) (by omega) (by omega)]
      exact hq k (by omega)
    · obtain ⟨v0, v1⟩ := pk_bd h p 5 (by omega) (by omega) (by omega) (by omega)
      obtain ⟨c0, c1⟩ := clamp_bd 1 15 (x + pk l p 5 - 2) (by omega)
      obtain ⟨m, q, hm, q0, q1, hq⟩ := ih (i + 1) (acc ++ [⟨x, false⟩]) (mx 1 (mn 15 (x + pk l p 5 - 2))) (p + 1) (by omega) (by simp [ha]) (by omega) (by omega) (by omega) (by omega)
      refine ⟨m, q, hm, by omega, by omega, fun k hk => ?_⟩
      obtain ⟨k, rfl⟩ : ∃ m, k = m + 1 := ⟨k - 1, by omega⟩
      simp only [spec_l91Melody.l0]
      rw [if_pos (by omega), letter_f]
      simp only [Option.bind_some]
      rw [if_neg hx, if_pos (by omega), pk_f h p 5 k (by omega) (by omega) (by omega) (by omega) (by omega)]
      simp only [Option.bind_some]
      rw [w1 (by omega), w0 (i := x + pk l p 5) (by omega) (by omega), w0 (i := x + pk l p 5 - 2) (by omega) (by omega)]
      exact hq k (by omega)
theorem mel_d (l : List Int) (h : Rdr l) (p : Int) (a : Nat) (ha : a ≤ 20) (hp : 0 ≤ p) (hp' : p ≤ 5000) : ∃ m q, m.length ≤ a ∧ p ≤ q ∧ q ≤ p + 100 ∧ ∀ k, 40 ≤ k → spec_l91Melody.f k l p (a : Int) = some (m, q) := by
  obtain ⟨v0, v1⟩ := pk_bd h p ((a : Int) + 1) (by omega) (by omega) (by omega) (by omega)
  obtain ⟨u0, u1⟩ := pk_bd h (p + 1) 5 (by omega) (by omega) (by omega) (by omega)
  obtain ⟨n, hn⟩ := Int.eq_ofNat_of_zero_le v0
  obtain ⟨m, q, hm, q0, q1, hq⟩ := mel_l0 l h n (by omega) n 0 [] (4 + pk l (p + 1) 5) (p + 1 + 1) (by omega) rfl (by omega) (by omega) (by omega) (by omega)
  refine ⟨m, q, by omega, by omega, by omega, fun k hk => ?_⟩
  unfold spec_l91Melody.f
  rw [w0 (i := (a : Int) + 1) (by omega) (by omega), pk_f h p ((a : Int) + 1) k (by omega) (by omega) (by omega) (by omega) (by omega)]
  simp only [Option.bind_some]
  rw [pk_f h (p + 1) 5 k (by omega) (by omega) (by omega) (by omega) (by omega)]
  simp only [Option.bind_some]
  rw [w0 (i := 4 + pk l (p + 1) 5) (by omega) (by omega), hn]
  exact hq k (by omega)
/-! ### the modes of a melody -/
def RG (m : List S49) : Int × Int × Bool := if MV m = true ∧ 0 < m.length then (loR (headS m) m, hiR (headS m) m, true) else (0, 0, false)
theorem RG_pos {m : List S49} (h : MV m = true ∧ 0 < m.length) : RG m = (loR (headS m) m, hiR (headS m) m, true) := if_pos h
theorem RG_neg {m : List S49} (h : ¬ (MV m = true ∧ 0 < m.length)) : RG m = (0, 0, false) := if_neg h
theorem rng_i (m : List S49) (k : Nat) (hk : 25 ≤ k) : impl_MelodyRange.f k m = some (RG m) := by
  unfold impl_MelodyRange.f
  rw [mvi_f m k hk, Option.bind_some]
  by_cases hc : MV m = true ∧ 0 < m.length
  · rw [RG_pos hc, if_pos hc.1, if_pos hc.2]
  · rw [RG_neg hc]
    by_cases hv : MV m = true
    · rw [if_pos hv, if_neg (fun h => hc ⟨hv, h⟩)]
    · rw [if_neg hv]
theorem mn_min' (a b : Int) : mn a b = min a b := by
  unfold mn
  split <;> omega
theorem mx_max' (a b : Int) : mx a b = max a b := by
  unfold mx
  split <;> omega
theorem rng_l0 (m : List S49) (hm : m.length ≤ 100) (a0 b0 : Int) : ∀ (d i k : Nat), i + d = m.length → d < k → spec_MelodyRange.l0 k m (loR a0 (m.take i)) (hiR b0 (m.take i)) (i : Int) = some (loR a0 m, hiR b0 m, true) := by
  intro d
  induction d with
  | zero =>
    intro i k hi hk
    obtain ⟨k, rfl⟩ : ∃ j, k = j + 1 := ⟨k - 1, by omega⟩
    simp only [spec_MelodyRange.l0]
    rw [if_neg (by omega), List.take_of_length_le (by omega)]
  | succ d ih =>
    intro i k hi hk
    obtain ⟨k, rfl⟩ : ∃ j, k = j + 1 := ⟨k - 1, by omega⟩
    have hlt : i < m.length := by omega
    simp only [spec_MelodyRange.l0]
    rw [if_pos (by omega), if_pos (by omega), w1 (by omega), mn_min', mx_max', rdt_at m i hlt]
    have e := ih (i + 1) k (by omega) (by omega)
    rw [List.take_succ_eq_append_getElem hlt, loR_snoc, hiR_snoc] at e
    exact e
theorem rng_s (m : List S49) (hm : m.length ≤ 100) (k : Nat) (hk : 110 ≤ k) : spec_MelodyRange.f k m = some (RG m) := by
  obtain ⟨k, rfl⟩ : ∃ j, k = j + 1 := ⟨k - 1, by omega⟩
  unfold spec_MelodyRange.f
  rw [mvs_f m (by omega) (k + 1) (by omega), Option.bind_some]
  by_cases hc : MV m = true ∧ 0 < m.length
  · have hb : ((m.length : Int) == 0) = false := beq_eq_false_iff_ne.2 (by have := hc.2; omega)
    rw [RG_pos hc, if_pos hc.1]
    simp only [spec_MelodyRange.j0]
    rw [hb, if_neg (by decide), if_pos (by have := hc.2; omega)]
    have e := rng_l0 m hm (headS m) (headS m) m.length 0 k (by omega) (by omega)
    exact e
  · rw [RG_neg hc]
    simp only [spec_MelodyRange.j0]
    by_cases hv : MV m = true
    · have hb : ((m.length : Int) == 0) = true := beq_iff_eq.2 (by have : ¬ 0 < m.length := fun h => hc ⟨hv, h⟩; omega)
      rw [if_pos hv, hb, if_pos rfl]
    · rw [if_neg hv, if_pos trivial]
/-- the last tone -/
def lastS (m : List S49) : S49 := rd_T49 m ((m.length : Int) - 1)
def inM (m : List S49) (i : Int) : Bool := MV m && decide (0 < m.length) && decide ((lastS m).f0 = (mRow i).1) && !(lastS m).f1 && decide ((mRow i).2.2.1 ≤ loR (headS m) m) && decide (hiR (headS m) m ≤ (mRow i).2.2.2)
theorem in_i (m : List S49) (hm : m.length ≤ 100) (i : Int) (h1 : 1 ≤ i) (h8 : i ≤ 8) (k : Nat) (hk : 25 ≤ k) : impl_ModeIn.f k m i = some (inM m i) := by
  unfold impl_ModeIn.f impl_modeAt.f
  rw [if_pos ⟨h1, h8⟩, Option.bind_some, rng_i m k hk, Option.bind_some]
  dsimp only
  rw [if_pos rfl]
  unfold inM
  by_cases hc : MV m = true ∧ 0 < m.length
  · obtain ⟨hv, h0⟩ := hc
    have ew : wrap64 ((m.length : Int) - 1) = (m.length : Int) - 1 := by unfold wrap64; omega
    rw [RG_pos ⟨hv, h0⟩, hv, decide_eq_true h0]
    dsimp only
    rw [if_pos rfl, ew, if_pos (by omega), if_pos (by omega)]
    show (if (lastS m).f0 = (mRow i).1 then (if ((lastS m).f1 = true) then _ else _) else _) = _
    by_cases e1 : (lastS m).f0 = (mRow i).1
    · rw [if_pos e1, decide_eq_true e1]
      cases e2 : (lastS m).f1 with
      | true => rfl
      | false =>
        rw [if_neg (by decide)]
        by_cases e3 : (mRow i).2.2.1 ≤ loR (headS m) m
        · rw [if_pos e3, decide_eq_true e3]; rfl
        · rw [if_neg e3, decide_eq_false e3]; rfl
    · rw [if_neg e1, decide_eq_false e1]; rfl
  · rw [RG_neg hc]
    dsimp only
    rw [if_neg (by decide)]
    congr 1
    by_cases hv : MV m = true
    · have h0 : ¬ 0 < m.length := fun h => hc ⟨hv, h⟩
      rw [decide_eq_false h0]
      simp
    · rw [Bool.eq_false_iff.mpr hv]
      rfl
theorem spec_rows : ∀ n, n < 8 → spec_ModeFinal.f ((n : Nat) + 1 : Int) = some (mRow ((n : Nat) + 1 : Int)).1 ∧ spec_ModeRange.f ((n : Nat) + 1 : Int) = some ((mRow ((n : Nat) + 1 : Int)).2.2.1, (mRow ((n : Nat) + 1 : Int)).2.2.2, true) ∧ spec_ModeTenor.f ((n : Nat) + 1 : Int) = some (mRow ((n : Nat) + 1 : Int)).2.1 := by decide +kernel
theorem in_s (m : List S49) (hm : m.length ≤ 100) (i : Int) (h1 : 1 ≤ i) (h8 : i ≤ 8) (k : Nat) (hk : 110 ≤ k) : spec_ModeIn.f k m i = some (inM m i) := by
  obtain ⟨n, rfl⟩ : ∃ n : Nat, i = (n : Int) + 1 := ⟨(i - 1).toNat, by omega⟩
  obtain ⟨q1, q2, q3⟩ := spec_rows n (by omega)
  generalize ((n : Nat) : Int) + 1 = i at *
  unfold spec_ModeIn.f
  rw [rng_s m hm k hk, Option.bind_some, q2, Option.bind_some]
  unfold inM
  by_cases hc : MV m = true ∧ 0 < m.length
  · obtain ⟨hv, h0⟩ := hc
    have ew : wrap64 ((m.length : Int) - 1) = (m.length : Int) - 1 := by unfold wrap64; omega
    rw [RG_pos ⟨hv, h0⟩, hv, decide_eq_true h0]
    dsimp only
    rw [if_pos rfl, if_pos rfl]
    by_cases e3 : loR (headS m) m < (mRow i).2.2.1
    · rw [if_pos e3, decide_eq_false (show ¬ (mRow i).2.2.1 ≤ loR (headS m) m by omega)]
      simp
    · rw [if_neg e3, decide_eq_true (show (mRow i).2.2.1 ≤ loR (headS m) m by omega)]
      by_cases e4 : hiR (headS m) m > (mRow i).2.2.2
      · rw [if_pos e4, decide_eq_false (show ¬ hiR (headS m) m ≤ (mRow i).2.2.2 by omega)]
        simp
      · rw [if_neg e4, decide_eq_true (show hiR (headS m) m ≤ (mRow i).2.2.2 by omega), ew, if_pos (by omega), if_pos (by omega), q1, Option.bind_some]
        congr 1
        simp only [Bool.true_and, Bool.and_true]
        rfl
  · rw [RG_neg hc]
    dsimp only
    rw [if_neg (by decide)]
    congr 1
    by_cases hv : MV m = true
    · have h0 : ¬ 0 < m.length := fun h => hc ⟨hv, h⟩
      rw [decide_eq_false h0]
      simp
    · rw [Bool.eq_false_iff.mpr hv]
      rfl
/-- all modes from i on -/
def allM (m : List S49) : Nat → Int → List Int
  | 0, _ => []
  | d + 1, i => if inM m i = true then i :: allM m d (i + 1) else allM m d (i + 1)
theorem allM_bd (m : List S49) : ∀ d i, ∀ x ∈ allM m d i, i ≤ x ∧ x < i + d
  | 0, _, _, h => absurd h (List.not_mem_nil)
  | d + 1, i, x, h => by
    have ih := allM_bd m d (i + 1)
    rw [allM] at h
    split at h
    · rcases List.mem_cons.1 h with rfl | h
      · omega
      · have := ih x h; omega
    · have := ih x h; omega
theorem all_i (m : List S49) (hm : m.length ≤ 100) : ∀ (d : Nat) (i : Int) (acc : List Int) (k : Nat), i + d = 9 → 1 ≤ i → acc.length + d ≤ 100 → d + 30 ≤ k → impl_ModeAll.l0 k m acc i = some (acc ++ allM m d i)
  | 0, i, acc, k, hi, h1, ha, hk => by
    obtain ⟨k, rfl⟩ : ∃ j, k = j + 1 := ⟨k - 1, by omega⟩
    simp only [impl_ModeAll.l0]
    rw [if_neg (by omega), allM, List.append_nil]
  | d + 1, i, acc, k, hi, h1, ha, hk => by
    obtain ⟨k, rfl⟩ : ∃ j, k = j + 1 := ⟨k - 1, by omega⟩
    simp only [impl_ModeAll.l0]
    rw [if_pos (by omega), in_i m hm i h1 (by omega) k (by omega), Option.bind_some, allM, w0 (by omega) (by omega)]
    cases h : inM m i with
    | true =>
      rw [if_pos rfl, if_pos (by omega), if_pos rfl, all_i m hm d (i + 1) (acc ++ [i]) k (by omega) (by omega) (by simp; omega) (by omega), List.append_assoc]
      rfl
    | false =>
      rw [if_neg (by decide), if_neg (by decide), all_i m hm d (i + 1) acc k (by omega) (by omega) (by omega) (by omega)]
theorem all_s (m : List S49) (hm : m.length ≤ 100) : ∀ (d : Nat) (i : Int) (acc : List Int) (k : Nat), i + d = 9 → 1 ≤ i → acc.length + d ≤ 100 → d + 120 ≤ k → spec_ModeAll.l0 k m acc i = some (acc ++ allM m d i)
  | 0, i, acc, k, hi, h1, ha, hk => by
    obtain ⟨k, rfl⟩ : ∃ j, k = j + 1 := ⟨k - 1, by omega⟩
    simp only [spec_ModeAll.l0]
    rw [if_neg (by omega), allM, List.append_nil]
  | d + 1, i, acc, k, hi, h1, ha, hk => by
    obtain ⟨k, rfl⟩ : ∃ j, k = j + 1 := ⟨k - 1, by omega⟩
    simp only [spec_ModeAll.l0]
    rw [if_pos (by omega), in_s m hm i h1 (by omega) k (by omega), Option.bind_some, allM, w0 (by omega) (by omega)]
    cases h : inM m i with
    | true =>
      rw [if_pos rfl, if_pos (by omega), if_pos rfl, all_s m hm d (i + 1) (acc ++ [i]) k (by omega) (by omega) (by simp; omega) (by omega), List.append_assoc]
      rfl
    | false =>
      rw [if_neg (by decide), if_neg (by decide), all_s m hm d (i + 1) acc k (by omega) (by omega) (by omega) (by omega)]
/-- how many tones stand at a step -/
def cntS (s : Int) : List S49 → Int
  | [] => 0
  | t :: r => (if t.f0 = s then 1 else 0) + cntS s r
theorem cntS_bd (s : Int) : ∀ r : List S49, 0 ≤ cntS s r ∧ cntS s r ≤ r.length
  | [] => by simp [cntS]
  | t :: r => by
    have := cntS_bd s r
    rw [cntS, List.length_cons]
    split <;> omega
theorem ten_i (m : List S49) (hm : m.length ≤ 100) (i : Int) (h1 : 1 ≤ i) (h8 : i ≤ 8) : ∀ (d j k : Nat) (c : Int), j + d = m.length → d < k → 0 ≤ c → c ≤ j → impl_tenorTones.l0 k i c m (m.length : Int) (j : Int) = some (c + cntS (mRow i).2.1 (m.drop j)) := by
  intro d
  induction d with
  | zero =>
    intro j k c hj hk hc hc'
    obtain ⟨k, rfl⟩ : ∃ j, k = j + 1 := ⟨k - 1, by omega⟩
    simp only [impl_tenorTones.l0]
    rw [if_neg (by omega), List.drop_eq_nil_of_le (by omega), cntS, Int.add_zero]
  | succ d ih =>
    intro j k c hj hk hc hc'
    obtain ⟨k, rfl⟩ : ∃ j, k = j + 1 := ⟨k - 1, by omega⟩
    have hlt : j < m.length := by omega
    have ht : impl_ModeTenor.f i = some (mRow i).2.1 := by
      unfold impl_ModeTenor.f impl_modeAt.f
      rw [if_pos ⟨h1, h8⟩, Option.bind_some]
      rfl
    simp only [impl_tenorTones.l0]
    rw [if_pos (by omega), if_pos (by omega), if_pos (by omega), ht, Option.bind_some, rdt_at m j hlt, List.drop_eq_getElem_cons hlt, cntS, w1 (by omega)]
    by_cases e : m[j].f0 = (mRow i).2.1
    · rw [if_pos e, if_pos e, w0 (by omega) (by omega), ih (j + 1) k (c + 1) (by omega) (by omega) (by omega) (by omega)]
      congr 1
      omega
    · rw [if_neg e, if_neg e, ih (j + 1) k c (by omega) (by omega) (by omega) (by omega)]
      congr 1
      omega
theorem ten_s (m : List S49) (hm : m.length ≤ 100) (i : Int) (h1 : 1 ≤ i) (h8 : i ≤ 8) : ∀ (d j k : Nat) (c : Int), j + d = m.length → d < k → 0 ≤ c → c ≤ j → spec_l5Tenors.l0 k m i c (j : Int) = some (c + cntS (mRow i).2.1 (m.drop j)) := by
  intro d
  obtain ⟨n, rfl⟩ : ∃ n : Nat, i = (n : Int) + 1 := ⟨(i - 1).toNat, by omega⟩
  obtain ⟨q1, q2, q3⟩ := spec_rows n (by omega)
  generalize ((n : Nat) : Int) + 1 = i at *
  induction d with
  | zero =>
    intro j k c hj hk hc hc'
    obtain ⟨k, rfl⟩ : ∃ j, k = j + 1 := ⟨k - 1, by omega⟩
    simp only [spec_l5Tenors.l0]
    rw [if_neg (by omega), List.drop_eq_nil_of_le (by omega), cntS, Int.add_zero]
  | succ d ih =>
    intro j k c hj hk hc hc'
    obtain ⟨k, rfl⟩ : ∃ j, k = j + 1 := ⟨k - 1, by omega⟩
    have hlt : j < m.length := by omega
    simp only [spec_l5Tenors.l0]
    rw [if_pos (by omega), if_pos (by omega), q3, Option.bind_some, rdt_at m j hlt, List.drop_eq_getElem_cons hlt, cntS, w1 (by omega)]
    by_cases e : m[j].f0 = (mRow i).2.1
    · rw [if_pos e, if_pos e, w0 (by omega) (by omega), ih (j + 1) k (c + 1) (by omega) (by omega) (by omega) (by omega)]
      congr 1
      omega
    · rw [if_neg e, if_neg e, ih (j + 1) k c (by omega) (by omega) (by omega) (by omega)]
      congr 1
      omega
def tenM (m : List S49) (i : Int) : Int := cntS (mRow i).2.1 m
theorem tenM_bd (m : List S49) (i : Int) : 0 ≤ tenM m i := (cntS_bd _ m).1
theorem tn_i (m : List S49) (hm : m.length ≤ 100) (i : Int) (h1 : 1 ≤ i) (h8 : i ≤ 8) (k : Nat) (hk : 101 ≤ k) : impl_tenorTones.f k m i = some (tenM m i) := by
  unfold impl_tenorTones.f
  have e : impl_tenorTones.l0 k i 0 m (m.length : Int) 0 = _ := ten_i m hm i h1 h8 m.length 0 k 0 (by omega) (by omega) (by omega) (by omega)
  rw [e, List.drop_zero, Int.zero_add]
  rfl
theorem tn_s (m : List S49) (hm : m.length ≤ 100) (i : Int) (h1 : 1 ≤ i) (h8 : i ≤ 8) (k : Nat) (hk : 101 ≤ k) : spec_l5Tenors.f k m i = some (tenM m i) := by
  unfold spec_l5Tenors.f
  have e : spec_l5Tenors.l0 k m i 0 0 = _ := ten_s m hm i h1 h8 m.length 0 k 0 (by omega) (by omega) (by omega) (by omega)
  rw [e, List.drop_zero, Int.zero_add]
  rfl
/-- the likely one -/
def bestM (m : List S49) (b : Int) : List Int → Int
  | [] => b
  | x :: r => if tenM m x > tenM m b then bestM m x r else bestM m b r
theorem bestM_mem (m : List S49) : ∀ (r : List Int) (b : Int), bestM m b r = b ∨ bestM m b r ∈ r
  | [], b => .inl rfl
  | x :: r, b => by
    rw [bestM]
    split
    · rcases bestM_mem m r x with h | h
      · rw [h]; exact .inr (List.mem_cons_self ..)
      · exact .inr (List.mem_cons_of_mem _ h)
    · rcases bestM_mem m r b with h | h
      · exact .inl h
      · exact .inr (List.mem_cons_of_mem _ h)
def likM (m : List S49) : Int × Bool := match allM m 8 1 with
  | [] => (0, false)
  | b :: r => (bestM m b r, true)
theorem lik_i (m : List S49) (hm : m.length ≤ 100) (A : List Int) (hA : ∀ x ∈ A, 1 ≤ x ∧ x ≤ 8) (hl : A.length ≤ 8) : ∀ (d j k : Nat) (b : Int), j + d = A.length → d + 110 ≤ k → impl_ModeLikely.l0 k m b (tenM m b) A (A.length : Int) (j : Int) = some (bestM m b (A.drop j), true) := by
  intro d
  induction d with
  | zero =>
    intro j k b hj hk
    obtain ⟨k, rfl⟩ : ∃ j, k = j + 1 := ⟨k - 1, by omega⟩
    simp only [impl_ModeLikely.l0]
    rw [if_neg (by omega), List.drop_eq_nil_of_le (by omega), bestM, decide_eq_true (tenM_bd m b)]
  | succ d ih =>
    intro j k b hj hk
    obtain ⟨k, rfl⟩ : ∃ j, k = j + 1 := ⟨k - 1, by omega⟩
    have hlt : j < A.length := by omega
    have hx := hA _ (List.getElem_mem hlt)
    simp only [impl_ModeLikely.l0]
    rw [if_pos (by omega), if_pos (by omega), if_pos (by omega), rd_at A j hlt, tn_i m hm _ hx.1 hx.2 k (by omega), Option.bind_some, List.drop_eq_getElem_cons hlt, bestM, w1 (by omega)]
    by_cases e : tenM m A[j] > tenM m b
    · rw [if_pos e, if_pos e, ih (j + 1) k A[j] (by omega) (by omega)]
    · rw [if_neg e, if_neg e, ih (j + 1) k b (by omega) (by omega)]
theorem lik_s (m : List S49) (hm : m.length ≤ 100) (A : List Int) (hA : ∀ x ∈ A, 1 ≤ x ∧ x ≤ 8) (hl : A.length ≤ 8) : ∀ (d j k : Nat) (b : Int), j + d = A.length → d + 110 ≤ k → 1 ≤ b → b ≤ 8 → spec_ModeLikely.l0 k m A b (j : Int) = some (bestM m b (A.drop j), true) := by
  intro d
  induction d with
  | zero =>
    intro j k b hj hk hb1 hb8
    obtain ⟨k, rfl⟩ : ∃ j, k = j + 1 := ⟨k - 1, by omega⟩
    simp only [spec_ModeLikely.l0]
    rw [if_neg (by omega), List.drop_eq_nil_of_le (by omega), bestM]
  | succ d ih =>
    intro j k b hj hk hb1 hb8
    obtain ⟨k, rfl⟩ : ∃ j, k = j + 1 := ⟨k - 1, by omega⟩
    have hlt : j < A.length := by omega
    have hx := hA _ (List.getElem_mem hlt)
    simp only [spec_ModeLikely.l0]
    rw [if_pos (by omega), if_pos (by omega), rd_at A j hlt, tn_s m hm _ hx.1 hx.2 k (by omega), Option.bind_some, tn_s m hm _ hb1 hb8 k (by omega), Option.bind_some, List.drop_eq_getElem_cons hlt, bestM, w1 (by omega)]
    by_cases e : tenM m A[j] > tenM m b
    · rw [if_pos e, if_pos e, ih (j + 1) k A[j] (by omega) (by omega) hx.1 hx.2]
    · rw [if_neg e, if_neg e, ih (j + 1) k b (by omega) (by omega) hb1 hb8]
theorem allM_len (m : List S49) : ∀ d i, (allM m d i).length ≤ d
  | 0, _ => Nat.le_refl _
  | d + 1, i => by
    have := allM_len m d (i + 1)
    rw [allM]
    split
    · rw [List.length_cons]; omega
    · omega
theorem likely_i (m : List S49) (hm : m.length ≤ 100) (k : Nat) (hk : 200 ≤ k) : impl_ModeLikely.f k m = some (likM m) := by
  have hA : ∀ x ∈ allM m 8 1, 1 ≤ x ∧ x ≤ 8 := fun x hx => by have := allM_bd m 8 1 x hx; omega
  have hl := allM_len m 8 1
  unfold impl_ModeLikely.f impl_ModeAll.f likM
  rw [all_i m hm 8 1 [] k (by omega) (by omega) (by simp) (by omega), Option.bind_some, List.nil_append]
  cases h : allM m 8 1 with
  | nil =>
    obtain ⟨k, rfl⟩ : ∃ j, k = j + 1 := ⟨k - 1, by omega⟩
    simp only [impl_ModeLikely.l0]
    rw [if_neg (by simp)]
    rfl
  | cons b r =>
    rw [h] at hA hl
    have hb := hA b (List.mem_cons_self ..)
    obtain ⟨k, rfl⟩ : ∃ j, k = j + 1 := ⟨k - 1, by omega⟩
    have e0 : rd (b :: r) 0 = b := rfl
    have hb0 := tenM_bd m b
    simp only [impl_ModeLikely.l0]
    rw [if_pos (by rw [List.length_cons]; omega), if_pos (by omega), if_pos (by rw [List.length_cons]; omega), e0, tn_i m hm b hb.1 hb.2 k (by omega), Option.bind_some, if_pos (by omega)]
    have e := lik_i m hm (b :: r) hA hl r.length 1 k b (by rw [List.length_cons]; omega) (by rw [List.length_cons] at hl; omega)
    rw [show wrap64 (0 + 1) = ((1 : Nat) : Int) by unfold wrap64; omega]
    exact e
theorem likely_s (m : List S49) (hm : m.length ≤ 100) (k : Nat) (hk : 200 ≤ k) : spec_ModeLikely.f k m = some (likM m) := by
  have hA : ∀ x ∈ allM m 8 1, 1 ≤ x ∧ x ≤ 8 := fun x hx => by have := allM_bd m 8 1 x hx; omega
  have hl := allM_len m 8 1
  unfold spec_ModeLikely.f spec_ModeAll.f likM
  rw [all_s m hm 8 1 [] k (by omega) (by omega) (by simp) (by omega), Option.bind_some, List.nil_append]
  cases h : allM m 8 1 with
  | nil =>
    rw [if_pos (by simp)]
  | cons b r =>
    rw [h] at hA hl
    have hb := hA b (List.mem_cons_self ..)
    have e0 : rd (b :: r) 0 = b := rfl
    rw [if_neg (by rw [List.length_cons]; omega), if_pos (by rw [List.length_cons]; omega), e0]
    have e : spec_ModeLikely.l0 k m (b :: r) b 0 = _ := lik_s m hm (b :: r) hA hl (b :: r).length 0 k b (by omega) (by omega) hb.1 hb.2
    rw [e, List.drop_zero, bestM, if_neg (by omega)]
theorem likM_ok {m : List S49} {k : Int} (h : likM m = (k, true)) : MV m = true ∧ 0 < m.length ∧ 1 ≤ k ∧ k ≤ 8 := by
  have hA : ∀ x ∈ allM m 8 1, 1 ≤ x ∧ x ≤ 8 := fun x hx => by have := allM_bd m 8 1 x hx; omega
  unfold likM at h
  cases he : allM m 8 1 with
  | nil => rw [he] at h; cases h
  | cons b r =>
    rw [he] at h hA
    have hk : bestM m b r = k := (Prod.mk.inj h).1
    have hkm : k ∈ b :: r := by
      rcases bestM_mem m r b with h1 | h1
      · rw [← hk, h1]; exact List.mem_cons_self ..
      · rw [← hk]; exact List.mem_cons_of_mem _ h1
    have hin : ∀ (d : Nat) (i : Int), ∀ x ∈ allM m d i, inM m x = true := by
      intro d
      induction d with
      | zero => intro i x hx; exact absurd hx (List.not_mem_nil)
      | succ d ih =>
        intro i x hx
        rw [allM] at hx
        split at hx
        · rename_i hi
          rcases List.mem_cons.1 hx with rfl | hx
          · exact hi
          · exact ih _ x hx
        · exact ih _ x hx
    have hi := hin 8 1 k (by rw [he]; exact hkm)
    unfold inM at hi
    simp only [Bool.and_eq_true, decide_eq_true_eq] at hi
    exact ⟨hi.1.1.1.1.1, hi.1.1.1.1.2, hA k hkm⟩
theorem idx10_miss : ∀ l : List UInt8, ¬ (10 : UInt8) ∈ l → Lib.index l [10] = -1
  | [], _ => rfl
  | b :: l, h => by
    have ih := idx10_miss l (fun x => h (List.mem_cons_of_mem _ x))
    have hb : (10 : UInt8) ≠ b := fun e => h (by rw [e]; exact List.mem_cons_self ..)
    unfold Lib.index
    rw [if_neg (by simpa [List.isPrefixOf] using hb), ih]
    rfl
theorem idx10_hit : ∀ (l r : List UInt8), ¬ (10 : UInt8) ∈ l → Lib.index (l ++ 10 :: r) [10] = (l.length : Int)
  | [], r, _ => by
    show Lib.index (10 :: r) [10] = 0
    unfold Lib.index
    rw [if_pos (by simp [List.isPrefixOf])]
  | b :: l, r, h => by
    have ih := idx10_hit l r (fun x => h (List.mem_cons_of_mem _ x))
    have hb : (10 : UInt8) ≠ b := fun e => h (by rw [e]; exact List.mem_cons_self ..)
    rw [List.cons_append]
    unfold Lib.index
    rw [if_neg (by simpa [List.isPrefixOf] using hb), ih, if_neg (by simp), List.length_cons]
    omega
theorem cut_hit (l r : List UInt8) (h : ¬ (10 : UInt8) ∈ l) : Lib.cut (l ++ 10 :: r) [10] = (l, r, true) := by
  have e : (l ++ 10 :: r).drop (l.length + [(10 : UInt8)].length) = r := by
    rw [show l.length + [(10 : UInt8)].length = l.length + 1 from rfl, List.drop_append, List.drop_eq_nil_of_le (by omega), List.nil_append, show l.length + 1 - l.length = 1 by omega]
    rfl
  unfold Lib.cut
  rw [idx10_hit l r h, if_pos (by omega), Int.toNat_natCast, e, List.take_append_of_le_length (Nat.le_refl _), List.take_length]
theorem execGo_line {step : St → ByteArray → Option (St × ByteArray)} {k : Nat} {m m' : St} {out o : ByteArray} {l r : List UInt8} (hl : ¬ (10 : UInt8) ∈ l) (hs : step m ⟨l.toArray⟩ = some (m', o)) (hz : out.size + o.size < 1000000) : execGo step (k + 1) m out (l ++ 10 :: r) = execGo step k m' (out ++ (o ++ (⟨#[10]⟩ : ByteArray))) r := by
  rw [execGo, cut_hit l r hl]
  dsimp only
  rw [if_pos rfl, hs, Option.bind_some, if_pos hz]
theorem execGo_end {step : St → ByteArray → Option (St × ByteArray)} {k : Nat} {m : St} {out : ByteArray} : execGo step (k + 1) m out [] = some (m, out) := by
  rw [execGo, show Lib.cut [] [10] = ([], [], false) from rfl]
  rfl
theorem split_join' (ws : List ByteArray) (h0 : ws ≠ []) (h : ∀ x ∈ ws, ¬ (32 : UInt8) ∈ x.data.toList) : splitS ⟨(Lib.join (ws.map (·.data.toList)) [32]).toArray⟩ = ws := splitW_join ws h0 h
theorem join_two (x : List UInt8) (ys : List (List UInt8)) (h : ys ≠ []) : Lib.join (x :: ys) [32] = x ++ 32 :: Lib.join ys [32] := by
  cases ys with
  | nil => exact absurd rfl h
  | cons y r =>
    rw [Lib.join_cons, Lib.join_cons]
    simp [Lib.joinTail]
theorem join_no10 : ∀ ys : List (List UInt8), (∀ y ∈ ys, ¬ (10 : UInt8) ∈ y) → ¬ (10 : UInt8) ∈ Lib.join ys [32]
  | [], _ => by simp [Lib.join]
  | [y], h => by
    rw [Lib.join_one]
    exact h y (List.mem_singleton.2 rfl)
  | x :: y :: r, h => by
    rw [join_two x (y :: r) (by simp)]
    intro hm
    rcases List.mem_append.1 hm with hm | hm
    · exact h x (List.mem_cons_self ..) hm
    · rcases List.mem_cons.1 hm with hm | hm
      · exact absurd hm (by decide)
      · exact join_no10 (y :: r) (fun z hz => h z (List.mem_cons_of_mem _ hz)) hm
theorem ix_mel (xs : List ByteArray) : cmdT.findIdx? (cmdM ((⟨#[109, 101, 108, 111, 100, 121]⟩ : ByteArray) :: xs)) = some 0 := by
  simp [cmdT, List.findIdx?_cons, cmdM]
theorem mono_ux {α : Type} {f : Nat → Option α} (h : ∀ j, LeO (f j) (f (j + 1))) {j : Nat} : ∀ (k : Nat) (r : α), f j = some r → f (j + k) = some r
  | 0, _, e => e
  | k + 1, r, e => h (j + k) r (mono_ux h k r e)
theorem mono_to {α : Type} {f : Nat → Option α} (h : ∀ j, LeO (f j) (f (j + 1))) {j K : Nat} {r : α} (hj : j ≤ K) (e : f j = some r) : f K = some r := by
  have := mono_ux h (K - j) r e
  rwa [show j + (K - j) = K by omega] at this
theorem dig_all : ∀ n, n < 25 → (laws_digits.f 5 ((n : Nat) : Int)).map (·.data) = some (decS n).data := by decide +kernel
theorem dig_f (n : Nat) (h : n < 25) (k : Nat) (hk : 5 ≤ k) : laws_digits.f k (n : Int) = some (decS n) := by
  have e := dig_all n h
  cases hs : laws_digits.f 5 ((n : Nat) : Int) with
  | none => rw [hs] at e; simp at e
  | some v =>
    rw [hs] at e
    have e2 : v = decS n := ByteArray.ext (Option.some.inj e)
    rw [e2] at hs
    exact mono_to (f := fun k => laws_digits.f k (n : Int)) (fun j => laws_digits.mono _ j) hk hs
theorem end_f (n e : Nat) (h : n < 25) (he : e < 25) (k : Nat) (hk : 5 ≤ k) : laws_endLine.f k (n : Int) (e : Int) = some (endTxt (decS n) (decS e)) := by
  have h1 := decS_size n
  have h2 := decS_size e
  unfold laws_endLine.f
  rw [dig_f n h k hk, Option.bind_some, dig_f e he k hk, Option.bind_some, if_pos (by omega)]
theorem exec_end (out : ByteArray) (n e : Nat) : execTxt out n e = out ++ endTxt (decS n) (decS e) := by
  apply ByteArray.ext
  simp [execTxt, endTxt, ByteArray.data_append, Array.append_assoc]
theorem end_size (n e : Nat) : (endTxt (decS n) (decS e)).size ≤ 40 := by
  have h1 := decS_size n
  have h2 := decS_size e
  unfold endTxt
  simp only [ByteArray.size_append]
  have e1 : (⟨#[116, 111, 110, 101, 115, 32]⟩ : ByteArray).size = 6 := rfl
  have e2 : (⟨#[32, 101, 110, 116, 114, 105, 101, 115, 32]⟩ : ByteArray).size = 9 := rfl
  have e3 : (⟨#[10]⟩ : ByteArray).size = 1 := rfl
  omega
theorem ttx_no10a : ∀ m, m < 21 → ∀ b : Bool, ¬ (10 : UInt8) ∈ ((impl_Tone_text.f ((m : Nat) : Int) b).getD ⟨#[]⟩).data.toList := by decide +kernel
theorem ttx_no10 {t : S49} (h : tvv t = true) : ¬ (10 : UInt8) ∈ (ttx t).data.toList := by
  obtain ⟨a, b⟩ := t
  have hb := tv_bd (show tv a b = true from h)
  obtain ⟨m, rfl⟩ := Int.eq_ofNat_of_zero_le hb.1
  exact ttx_no10a m (by omega) b
theorem MV_len' {m : List S49} (h : MV m = true) : m.length ≤ 24 := by
  unfold MV at h
  rw [Bool.and_eq_true] at h
  exact of_decide_eq_true h.1
theorem eqn_l0 (x : List Int) (hx : x.length ≤ 100) : ∀ (d i k : Nat), i + d = x.length → d < k → impl_equalNumbers.l0 k x x (x.length : Int) (i : Int) = some true := by
  intro d
  induction d with
  | zero =>
    intro i k hi hk
    obtain ⟨k, rfl⟩ : ∃ j, k = j + 1 := ⟨k - 1, by omega⟩
    simp only [impl_equalNumbers.l0]
    rw [if_neg (by omega)]
  | succ d ih =>
    intro i k hi hk
    obtain ⟨k, rfl⟩ : ∃ j, k = j + 1 := ⟨k - 1, by omega⟩
    simp only [impl_equalNumbers.l0]
    rw [if_pos (by omega), if_pos (by omega), if_pos (by omega), if_pos (by omega), if_pos trivial, w1 (by omega)]
    exact ih (i + 1) k (by omega) (by omega)
theorem eqn_f (x : List Int) (hx : x.length ≤ 100) (k : Nat) (hk : 101 ≤ k) : impl_equalNumbers.f k x x = some true := by
  unfold impl_equalNumbers.f
  rw [if_pos rfl]
  exact eqn_l0 x hx x.length 0 k (by omega) (by omega)
theorem same_self (m : List S49) (hM : MV m = true) (h0 : 0 < m.length) (k : Nat) (hk : 200 ≤ k) : impl_MelodySame.f k m m = some true := by
  have hl := MV_len' hM
  have h1 : impl_MelodySemis.f k m = some (semisOf m) := by
    unfold impl_MelodySemis.f
    rw [mvi_f m k (by omega), hM, Option.bind_some, if_pos ⟨rfl, h0⟩]
  have h2 : impl_MelodySteps.f k m = some (stepsOf m) := by
    unfold impl_MelodySteps.f
    rw [mvi_f m k (by omega), hM, Option.bind_some, if_pos ⟨rfl, h0⟩]
  have e1 := semisOf_len m
  have e2 := stepsOf_len m
  unfold impl_MelodySame.f
  rw [mvi_f m k (by omega), hM, Option.bind_some, if_pos rfl, Option.bind_some, if_pos rfl, if_pos rfl, h1, Option.bind_some, Option.bind_some, eqn_f _ (by omega) k (by omega), Option.bind_some, if_pos rfl, h2, Option.bind_some, Option.bind_some, eqn_f _ (by omega) k (by omega)]
  rfl
def aveB : ByteArray := ⟨#[97, 118, 101]⟩
theorem ave_valid (i : Int) (h1 : 1 ≤ i) (h8 : i ≤ 8) (st : List S49) (hM : MV st = true) (h0 : 0 < st.length) (hl : st.length ≤ 8) (k : Nat) (hk : 100 ≤ k) : impl_Entry_valid.f k aveB i st = some true := by
  obtain ⟨k, rfl⟩ : ∃ j, k = j + 5 := ⟨k - 5, by omega⟩
  have hs : aveB.size = 3 := rfl
  have b0 : bt aveB ((0 : Nat) : Int) = 97 := by decide +kernel
  have b1 : bt aveB ((1 : Nat) : Int) = 118 := by decide +kernel
  have b2 : bt aveB ((2 : Nat) : Int) = 101 := by decide +kernel
  have step : ∀ (j k : Nat), j < 3 → impl_Entry_valid.l0 (k + 1) 3 (j : Int) aveB i st = impl_Entry_valid.l0 k 3 ((j + 1 : Nat) : Int) aveB i st := by
    intro j k hj
    have hb : 97 ≤ bt aveB (j : Int) ∧ bt aveB (j : Int) ≤ 122 := by
      have : j = 0 ∨ j = 1 ∨ j = 2 := by omega
      rcases this with rfl | rfl | rfl
      · rw [b0]; decide
      · rw [b1]; decide
      · rw [b2]; decide
    simp only [impl_Entry_valid.l0]
    rw [if_pos (by omega), if_pos (by omega), if_pos (by rw [hs]; omega), if_neg (by omega), if_neg (by omega), w1 (by omega)]
  unfold impl_Entry_valid.f impl_modeAt.f
  rw [if_pos ⟨h1, h8⟩, Option.bind_some]
  dsimp only
  rw [if_pos rfl, if_neg (by decide +kernel), hs, decide_eq_false (by decide)]
  simp only [impl_Entry_valid.j0]
  rw [if_neg (by decide), hs]
  have s0 := step 0 (k + 3) (by decide)
  have s1 := step 1 (k + 2) (by decide)
  have s2 := step 2 (k + 1) (by decide)
  rw [show ((3 : Nat) : Int) = 3 from rfl]
  rw [show ((0 : Nat) : Int) = 0 from rfl] at s0
  rw [s0, s1, s2]
  simp only [impl_Entry_valid.l0]
  rw [if_neg (by decide)]
  unfold impl_tonesValid.f
  rw [if_pos (by omega), if_pos (by omega), mvi_f st k (by omega), hM]
  rfl
theorem sp_mode : splitS (⟨([109, 111, 100, 101] : List UInt8).toArray⟩ : ByteArray) = [⟨#[109, 111, 100, 101]⟩] := by decide +kernel
theorem sp_find : splitS (⟨([102, 105, 110, 100] : List UInt8).toArray⟩ : ByteArray) = [⟨#[102, 105, 110, 100]⟩] := by decide +kernel
theorem sp_ent : splitS (⟨([101, 110, 116, 101, 114, 32, 97, 118, 101] : List UInt8).toArray⟩ : ByteArray) = [⟨#[101, 110, 116, 101, 114]⟩, aveB] := by decide +kernel
theorem ix_mode : cmdT.findIdx? (cmdM [(⟨#[109, 111, 100, 101]⟩ : ByteArray)]) = some 8 := by decide +kernel
theorem ix_find : cmdT.findIdx? (cmdM [(⟨#[102, 105, 110, 100]⟩ : ByteArray)]) = some 10 := by decide +kernel
theorem ix_ent : cmdT.findIdx? (cmdM [(⟨#[101, 110, 116, 101, 114]⟩ : ByteArray), aveB]) = some 9 := by decide +kernel
theorem startOf_small (m : List S49) (h : m.length ≤ 8) : startOf m = m := by
  unfold startOf
  rw [List.take_of_length_le (by omega)]
theorem st_mode (m : List S49) (T : List S127) (k : Int) (hl : m.length ≤ 8) (h : likM m = (k, true)) (n : Nat) (hn : 200 ≤ n) : stepE n (m, T) (⟨([109, 111, 100, 101] : List UInt8).toArray⟩ : ByteArray) = some ((m, T), decS k.toNat) := by
  have hk := (likM_ok h).2.2
  unfold stepE
  rw [if_pos (by decide), sp_mode, ix_mode, if_neg (by decide), if_pos rfl]
  unfold modE
  rw [likely_i m (by omega) n hn, Option.bind_some, h, if_pos ⟨rfl, by show (0 : Int) ≤ k; omega, by show k < 25; omega⟩]
theorem st_ent (m : List S49) (T : List S127) (k : Int) (hl : m.length ≤ 8) (h : likM m = (k, true)) (n : Nat) (hn : 200 ≤ n) : stepE n (m, T) (⟨([101, 110, 116, 101, 114, 32, 97, 118, 101] : List UInt8).toArray⟩ : ByteArray) = dupE n (m, T) aveB k := by
  obtain ⟨hM, h0, h1, h8⟩ := likM_ok h
  have hw : wordE (⟨([101, 110, 116, 101, 114, 32, 97, 118, 101] : List UInt8).toArray⟩ : ByteArray) = aveB := by
    unfold wordE
    rw [sp_ent]
    rfl
  unfold stepE
  rw [if_pos (by decide), hw, sp_ent, ix_ent, if_neg (by decide), if_neg (by decide), if_pos rfl]
  unfold entE
  rw [likely_i m (by omega) n hn, Option.bind_some, h, if_pos ⟨rfl, h1, h8, h0⟩]
  show (impl_Entry_valid.f n aveB k (startOf m)).bind _ = _
  rw [startOf_small m hl, ave_valid k h1 h8 m hM h0 hl n (by omega), Option.bind_some, if_pos rfl]
theorem st_find (m : List S49) (k : Int) (hl : m.length ≤ 8) (h : likM m = (k, true)) (n : Nat) (hn : 200 ≤ n) : stepE n (m, [⟨aveB, k, m⟩]) (⟨([102, 105, 110, 100] : List UInt8).toArray⟩ : ByteArray) = some ((m, [⟨aveB, k, m⟩]), fndT true aveB) := by
  obtain ⟨hM, h0, h1, h8⟩ := likM_ok h
  unfold stepE
  rw [if_pos (by decide), sp_find, ix_find, if_neg (by decide), if_neg (by decide), if_neg (by decide), if_pos rfl]
  unfold fndE
  dsimp only
  rw [if_pos ⟨rfl, by decide, by omega, h0⟩, ave_valid k h1 h8 m hM h0 hl n (by omega), Option.bind_some, mvi_f m n (by omega), hM, Option.bind_some, if_pos ⟨rfl, rfl⟩]
  unfold sameE
  dsimp only
  rw [if_pos (Nat.le_refl _), List.take_length, same_self m hM h0 n hn, Option.bind_some, if_pos rfl]
def melY : ByteArray := ⟨#[109, 101, 108, 111, 100, 121]⟩
theorem exec_mode (m : List S49) (k : Int) (hl : m.length ≤ 8) (h : likM m = (k, true)) :
    impl_Execute.f 2500 (((⟨#[109, 101, 108, 111, 100, 121, 32]⟩ : ByteArray) ++ mjoin (m.map ttx)) ++ (⟨#[10, 109, 111, 100, 101, 10, 101, 110, 116, 101, 114, 32, 97, 118, 101, 10, 102, 105, 110, 100, 10, 101, 110, 116, 101, 114, 32, 97, 118, 101, 10]⟩ : ByteArray)) = some ((((((⟨#[111, 107, 10]⟩ : ByteArray) ++ decS k.toNat) ++ (⟨#[10, 111, 107, 10]⟩ : ByteArray)) ++ (⟨#[102, 111, 117, 110, 100, 32, 97, 118, 101, 10]⟩ : ByteArray)) ++ (⟨#[110, 111, 10]⟩ : ByteArray)) ++ endTxt (decS m.length) (decS 1)) := by
  obtain ⟨hM, h0, h1, h8⟩ := likM_ok h
  have ha : m.all tvv = true := by unfold MV at hM; rw [Bool.and_eq_true] at hM; exact hM.2
  have hT := mjoin_size hM
  have hne : m.map ttx ≠ [] := by intro e; have := congrArg List.length e; rw [List.length_map, List.length_nil] at this; omega
  have hnm : ∀ x ∈ m.map ttx, ¬ (32 : UInt8) ∈ x.data.toList ∧ ¬ (10 : UInt8) ∈ x.data.toList := by
    intro x hx
    obtain ⟨t, ht, rfl⟩ := List.mem_map.1 hx
    exact ⟨(ttx_facts (List.all_eq_true.1 ha t ht)).2, ttx_no10 (List.all_eq_true.1 ha t ht)⟩
  have s1 : (⟨#[109, 101, 108, 111, 100, 121, 32]⟩ : ByteArray).size = 7 := rfl
  have s2 : (⟨#[10, 109, 111, 100, 101, 10, 101, 110, 116, 101, 114, 32, 97, 118, 101, 10, 102, 105, 110, 100, 10, 101, 110, 116, 101, 114, 32, 97, 118, 101, 10]⟩ : ByteArray).size = 31 := rfl
  unfold impl_Execute.f
  rw [if_pos (by simp only [ByteArray.size_append]; omega)]
  have e : (((⟨#[109, 101, 108, 111, 100, 121, 32]⟩ : ByteArray) ++ mjoin (m.map ttx)) ++ (⟨#[10, 109, 111, 100, 101, 10, 101, 110, 116, 101, 114, 32, 97, 118, 101, 10, 102, 105, 110, 100, 10, 101, 110, 116, 101, 114, 32, 97, 118, 101, 10]⟩ : ByteArray)).data.toList = Lib.join ((melY :: m.map ttx).map (·.data.toList)) [32] ++ 10 :: (([109, 111, 100, 101] : List UInt8) ++ 10 :: (([101, 110, 116, 101, 114, 32, 97, 118, 101] : List UInt8) ++ 10 :: (([102, 105, 110, 100] : List UInt8) ++ 10 :: (([101, 110, 116, 101, 114, 32, 97, 118, 101] : List UInt8) ++ 10 :: [])))) := by
    rw [List.map_cons, join_two _ _ (by simpa using hne)]
    simp [ByteArray.data_append, mjoin, melY]
  have n1 : ¬ (10 : UInt8) ∈ Lib.join ((melY :: m.map ttx).map (·.data.toList)) [32] := by
    refine join_no10 _ (fun y hy => ?_)
    obtain ⟨x, hx, rfl⟩ := List.mem_map.1 hy
    rcases List.mem_cons.1 hx with rfl | hx
    · decide
    · exact (hnm x hx).2
  have p1 : splitS ⟨(Lib.join ((melY :: m.map ttx).map (·.data.toList)) [32]).toArray⟩ = melY :: m.map ttx := by
    refine split_join' _ (by simp) (fun x hx => ?_)
    rcases List.mem_cons.1 hx with rfl | hx
    · decide
    · exact (hnm x hx).1
  have z1 : (⟨(Lib.join ((melY :: m.map ttx).map (·.data.toList)) [32]).toArray⟩ : ByteArray).size < 4294967281 := by
    show (Lib.join _ _).toArray.size < _
    rw [List.size_toArray, List.map_cons, join_two _ _ (by simpa using hne), List.length_append, List.length_cons]
    have : (Lib.join ((m.map ttx).map (·.data.toList)) [32]).length ≤ 96 := hT
    have : melY.data.toList.length = 6 := rfl
    omega
  have ok1 : (saidB true).size = 2 := rfl
  have st1 : stepE 2500 ([], []) ⟨(Lib.join ((melY :: m.map ttx).map (·.data.toList)) [32]).toArray⟩ = some ((m, []), saidB true) := by
    unfold stepE
    rw [if_pos z1, p1, if_pos (show cmdT.findIdx? (cmdM (melY :: m.map ttx)) = some 0 from ix_mel _)]
    unfold melE
    have hfrom : impl_MelodyFrom.f 2500 (joinT (m.map ttx)) = some (m, true) := by
      unfold impl_MelodyFrom.f mfRes
      have hn : ¬ (joinT (m.map ttx)).toList = [] := by
        rw [ByteArray.toList_eq]
        show ¬ Lib.join ((m.map ttx).map (·.data.toList)) [32] = []
        cases m with
        | nil => exact absurd rfl (Nat.ne_of_gt h0)
        | cons t ts =>
          rw [List.map_cons, List.map_cons, Lib.join_cons]
          intro e2
          exact (ttx_facts (List.all_eq_true.1 ha t (List.mem_cons_self ..))).1 (List.append_eq_nil_iff.1 e2).1
      have hsp : splitW (joinT (m.map ttx)) = m.map ttx := splitW_join (m.map ttx) hne (fun x hx => (hnm x hx).1)
      rw [if_pos (show (joinT (m.map ttx)).size < 4294967281 from Nat.lt_of_le_of_lt hT (by decide)), if_neg hn, hsp, mfGo_ttx m [] ha (by simp; omega)]
      rfl
    rw [p1, List.tail_cons, hfrom]
    rfl
  have kd : (decS k.toNat).size ≤ 2 := decS_size _
  have st2 := st_mode m [] k hl h 2500 (by decide)
  have st3 : stepE 2500 (m, []) (⟨([101, 110, 116, 101, 114, 32, 97, 118, 101] : List UInt8).toArray⟩ : ByteArray) = some ((m, [⟨aveB, k, m⟩]), okB) := by
    rw [st_ent m [] k hl h 2500 (by decide)]
    unfold dupE
    dsimp only
    rw [startOf_small m hl]
  have st4 := st_find m k hl h 2500 (by decide)
  have st5 : stepE 2500 (m, [⟨aveB, k, m⟩]) (⟨([101, 110, 116, 101, 114, 32, 97, 118, 101] : List UInt8).toArray⟩ : ByteArray) = some ((m, [⟨aveB, k, m⟩]), noB) := by
    rw [st_ent m _ k hl h 2500 (by decide)]
    unfold dupE
    dsimp only
    rw [if_pos ⟨rfl, rfl, rfl, by omega⟩, ave_valid k h1 h8 m hM h0 hl 2500 (by decide), Option.bind_some, if_pos rfl]
  have o1 : okB.size = 2 := rfl
  have o2 : noB.size = 2 := rfl
  have o3 : (fndT true aveB).size = 9 := rfl
  have sN : (⟨#[10]⟩ : ByteArray).size = 1 := rfl
  have sE : (⟨#[]⟩ : ByteArray).size = 0 := rfl
  rw [e, show (2500 : Nat) = 2499 + 1 from rfl]
  rw [execGo_line n1 st1 (by rw [ok1, sE]; decide), show (2499 : Nat) = 2498 + 1 from rfl, execGo_line (by decide) st2 (by simp only [ByteArray.size_append]; omega), show (2498 : Nat) = 2497 + 1 from rfl, execGo_line (by decide) st3 (by simp only [ByteArray.size_append]; omega), show (2497 : Nat) = 2496 + 1 from rfl, execGo_line (by decide) st4 (by simp only [ByteArray.size_append]; omega), show (2496 : Nat) = 2495 + 1 from rfl, execGo_line (by decide) st5 (by simp only [ByteArray.size_append]; omega), show (2495 : Nat) = 2494 + 1 from rfl, execGo_end, Option.bind_some]
  dsimp only
  rw [if_pos ⟨by omega, (show (1 : Nat) < 25 by decide), by simp only [ByteArray.size_append]; omega⟩, exec_end]
  congr 1
  all_goals (apply ByteArray.ext; simp [ByteArray.data_append, Array.append_assoc, saidB, okB, noB, fndT, fndB, aveB])
theorem chant_d (o : List Int) (hR : Rdr o) : ∃ m q, m.length ≤ 8 ∧ ∀ k, 60 ≤ k → spec_l92Chant.f k o 0 = some (m, q) := by
  obtain ⟨m, q, hm, q0, q1, hq⟩ := mel_d o hR 0 7 (by omega) (by omega) (by omega)
  have hp := pk_f hR q 5
  by_cases h0 : pk o q 5 > 0
  · cases hM : MV m with
    | true =>
      refine ⟨m ++ [⟨wrap64 (4 + pk o (q + 1) 4), false⟩], q + 1 + 1, by simp; omega, fun k hk => ?_⟩
      unfold spec_l92Chant.f
      have hq' := hq k (by omega)
      rw [show ((7 : Nat) : Int) = 7 from rfl] at hq'
      rw [hq', Option.bind_some, pk_f hR q 5 k (by omega) (by omega) (by omega) (by omega) (by omega), Option.bind_some]
      dsimp only
      rw [if_pos h0, mvs_f m (by omega) k (by omega), hM, Option.bind_some, if_pos rfl, pk_f hR (q + 1) 4 k (by omega) (by omega) (by omega) (by omega) (by omega), Option.bind_some, if_pos (by omega)]
    | false =>
      refine ⟨m, q + 1, by omega, fun k hk => ?_⟩
      unfold spec_l92Chant.f
      have hq' := hq k (by omega)
      rw [show ((7 : Nat) : Int) = 7 from rfl] at hq'
      rw [hq', Option.bind_some, pk_f hR q 5 k (by omega) (by omega) (by omega) (by omega) (by omega), Option.bind_some]
      dsimp only
      rw [if_pos h0, mvs_f m (by omega) k (by omega), hM, Option.bind_some, if_neg (by decide)]
  · refine ⟨m, q + 1, by omega, fun k hk => ?_⟩
    unfold spec_l92Chant.f
    have hq' := hq k (by omega)
    rw [show ((7 : Nat) : Int) = 7 from rfl] at hq'
    rw [hq', Option.bind_some, pk_f hR q 5 k (by omega) (by omega) (by omega) (by omega) (by omega), Option.bind_some]
    dsimp only
    rw [if_neg h0]
theorem FnExecuteMode : ∀ (l0 : List Int), l0.length ≤ maxLen → l0.length * 1 ≤ 140737488351232 → (∀ n ∈ l0, (Lit.int .u8 n).wf = true) → ∃ k, laws_FnExecuteMode.f k l0 = some true := by
  intro l0 z1 z2 hw
  refine ⟨2503, ?_⟩
  unfold laws_FnExecuteMode.f
  by_cases h : (l0.length : Int) > 1048576
  · rw [if_pos h]
  · rw [if_neg h]
    obtain ⟨o, ho, hR⟩ := open_f l0 (bytes_of hw)
    obtain ⟨m, q, hm, hq⟩ := chant_d o hR
    have hd : spec_DrawModeLikely.f 2503 l0 = some m := by
      unfold spec_DrawModeLikely.f
      rw [ho, Option.bind_some, hq 2503 (by omega), Option.bind_some]
    rw [hd, Option.bind_some, likely_i m (by omega) 2503 (by omega), Option.bind_some, likely_s m (by omega) 2503 (by omega), Option.bind_some, if_neg (by simp), if_pos rfl]
    obtain ⟨k, ok, hk⟩ : ∃ k ok, likM m = (k, ok) := ⟨_, _, rfl⟩
    rw [hk]
    dsimp only
    cases ok with
    | false =>
      simp only [laws_FnExecuteMode.j0]
      rw [if_pos (by rfl), if_pos (by rfl), beq_self_eq_true]
    | true =>
      obtain ⟨hM, h0, h1, h8⟩ := likM_ok hk
      have hT := mjoin_size hM
      have hex : impl_Execute.f 2501 _ = some _ := impl_Execute.mono _ 2500 _ (exec_mode m k hm hk)
      have hdg : laws_digits.f 2501 k = some (decS k.toNat) := by
        obtain ⟨kn, rfl⟩ : ∃ kn : Nat, k = (kn : Int) := ⟨k.toNat, by omega⟩
        rw [Int.toNat_natCast]
        exact dig_f kn (by omega) 2501 (by omega)
      have hen : laws_endLine.f 2501 (m.length : Int) 1 = some (endTxt (decS m.length) (decS 1)) := end_f m.length 1 (by omega) (by omega) 2501 (by omega)
      have s1 : (⟨#[109, 101, 108, 111, 100, 121, 32]⟩ : ByteArray).size = 7 := rfl
      have s3 : (⟨#[111, 107, 10]⟩ : ByteArray).size = 3 := rfl
      have s4 : (⟨#[10, 111, 107, 10]⟩ : ByteArray).size = 4 := rfl
      have s5 : (⟨#[102, 111, 117, 110, 100, 32, 97, 118, 101, 10]⟩ : ByteArray).size = 10 := rfl
      have s7 : (⟨#[110, 111, 10]⟩ : ByteArray).size = 3 := rfl
      have s6 := end_size m.length 1
      have kd : (decS k.toNat).size ≤ 2 := decS_size _
      simp only [laws_FnExecuteMode.j0]
      rw [if_neg (by decide), if_neg (by omega)]
      simp only [laws_FnExecuteMode.j1]
      rw [mti_f m 2501 (by omega), if_pos hM, Option.bind_some, if_pos (by omega), if_pos (by simp only [ByteArray.size_append]; omega), hex, Option.bind_some, hdg, Option.bind_some, if_pos (by omega), if_pos (by simp only [ByteArray.size_append]; omega), if_pos (by simp only [ByteArray.size_append]; omega), if_pos (by simp only [ByteArray.size_append]; omega), hen, Option.bind_some, if_pos (by simp only [ByteArray.size_append]; omega), beq_self_eq_true]

end Go.Proofs.YtkdlfnakbilhjaaGreatDoor.PureFnExecuteMode
