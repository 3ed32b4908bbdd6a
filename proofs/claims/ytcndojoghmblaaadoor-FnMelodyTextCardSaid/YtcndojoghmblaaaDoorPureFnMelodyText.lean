/- FnMelodyText: for every list of at most 1048576 bytes, the law of MelodyText holds of what the reference draws from it, and the list reads as before (longer lists the statement lets pass). The table letterNames is tied to the program's text; of the library's own variable internal/bytealg.MaxLen the world's shape alone is used. No condition beyond the statement's own. -/
import Derived.Test.YtcndojoghmblaaaDoorMTx0
import Derived.Test.YtcndojoghmblaaaDoorMTx3
import Derived.Test.YtcndojoghmblaaaDoorMTx2
import Derived.Test.YtcndojoghmblaaaDoorMTx5
import Derived.Test.YtcndojoghmblaaaDoorMTx4
import Derived.Laws.Bits64
namespace Go.Proofs.YtcndojoghmblaaaDoor.PureFnMelodyText
open Go.RowKit Go.Proofs.YtcndojoghmblaaaDoor.MT Go.Proofs.YtcndojoghmblaaaDoorW.PrintWords Go.Proofs.YtcndojoghmblaaaDoorW.PrintLast Go.Proofs.YtcndojoghmblaaaDoorW.PrintMore 
set_option linter.unusedVariables false
set_option linter.unusedSimpArgs false
theorem w1 {i : Nat} (h : i < 4611686018427387904) : wrap64 ((i : Int) + 1) = ((i + 1 : Nat) : Int) := by
  unfold wrap64
  omega
theorem w0 {i : Int} (h : -9223372036854775808 ≤ i) (h' : i ≤ 9223372036854775807) : wrap64 i = i := by
  unfold wrap64
  omega
theorem rd_at (xs : List Int) (i : Nat) (h : i < xs.length) : rd xs (i : Int) = xs[i] := by
  simp [rd, List.getD_eq_getElem?_getD, h]
/-- A tone of the gamut. -/
def tv (a : Int) (b : Bool) : Bool := decide (0 ≤ a) && (decide (a ≤ 20) && (!b || decide (Int.tmod a 7 = 2)))
theorem tv_spec (a : Int) (b : Bool) : spec_ToneValid.f a b = some (tv a b) := by
  unfold spec_ToneValid.f spec_l6In.f spec_l1Letter.f tv
  by_cases h0 : a ≥ 0
  · rw [if_pos h0, decide_eq_true (show 0 ≤ a from h0)]
    by_cases h1 : a ≤ 20
    · simp only [h1, decide_true, Option.bind_some, if_true, Bool.true_and]
      cases b
      · rfl
      · simp
        rfl
    · simp [h1]
  · rw [if_neg h0, decide_eq_false (show ¬ 0 ≤ a from h0)]
    rfl
theorem tv_impl (a : Int) (b : Bool) : impl_Tone_valid.f a b = some (tv a b) := by
  unfold impl_Tone_valid.f tv
  by_cases h0 : a ≥ 0
  · rw [if_pos h0, decide_eq_true (show 0 ≤ a from h0)]
    by_cases h1 : a ≤ 20
    · rw [if_pos h1, decide_eq_true h1]
      cases b
      · rfl
      · simp
        rfl
    · rw [if_neg h1, decide_eq_false h1]
      rfl
  · rw [if_neg h0, decide_eq_false (show ¬ 0 ≤ a from h0)]
    rfl
theorem in_spec (a b c : Int) : spec_l6In.f a b c = some (decide (b ≤ a) && decide (a ≤ c)) := by
  unfold spec_l6In.f
  by_cases h0 : a ≥ b
  · rw [if_pos h0, decide_eq_true (show b ≤ a from h0)]; rfl
  · rw [if_neg h0, decide_eq_false (show ¬ b ≤ a from h0)]; rfl
def tvv (t : S30) : Bool := tv t.f0 t.f1
theorem rdt_at (xs : List S30) (i : Nat) (h : i < xs.length) : rd_T30 xs (i : Int) = xs[i] := by
  simp [rd_T30, List.getD_eq_getElem?_getD, h]
def MV (l : List S30) : Bool := decide (l.length ≤ 24) && l.all tvv
theorem mvs_l0 (l : List S30) (hb : l.length < 4611686018427387904) : ∀ (d i k : Nat), i + d = l.length → d < k → (l.take i).all tvv = true → spec_MelodyValid.l0 k l (i : Int) = some (MV l) := by
  intro d
  induction d with
  | zero =>
    intro i k hi hk hv
    obtain ⟨k, rfl⟩ : ∃ m, k = m + 1 := ⟨k - 1, by omega⟩
    rw [List.take_of_length_le (by omega)] at hv
    simp only [spec_MelodyValid.l0]
    rw [if_neg (by omega)]
    unfold MV
    rw [hv, Bool.and_true]
    congr 1
    rw [decide_eq_decide]
    omega
  | succ d ih =>
    intro i k hi hk hv
    obtain ⟨k, rfl⟩ : ∃ m, k = m + 1 := ⟨k - 1, by omega⟩
    have hx : i < l.length := by omega
    simp only [spec_MelodyValid.l0]
    rw [if_pos (by omega), if_pos (by omega), rdt_at l i hx, tv_spec]
    simp only [Option.bind_some]
    by_cases hvi : tv l[i].f0 l[i].f1 = true
    · rw [if_pos hvi, w1 (by omega)]
      refine ih (i + 1) k (by omega) (by omega) ?_
      rw [List.take_succ_eq_append_getElem hx, List.all_append, hv]
      simp [tvv, hvi]
    · rw [if_neg hvi]
      have : l.all tvv = false := by
        rw [Bool.eq_false_iff]
        intro h
        exact hvi (List.all_eq_true.1 h _ (List.getElem_mem hx))
      unfold MV
      rw [this, Bool.and_false]
theorem mvs_f (l : List S30) (hb : l.length ≤ 1048576) (k : Nat) (hk : l.length < k) : spec_MelodyValid.f k l = some (MV l) := by
  unfold spec_MelodyValid.f
  simpa using mvs_l0 l (by omega) l.length 0 k (by omega) (by omega) (by simp)
theorem mvi_l0 (l : List S30) (hb : l.length < 4611686018427387904) : ∀ (d i k : Nat), i + d = l.length → d < k → impl_MelodyValid.l0 k l (l.length : Int) (i : Int) = some ((l.drop i).all tvv) := by
  intro d
  induction d with
  | zero =>
    intro i k hi hk
    obtain ⟨k, rfl⟩ : ∃ m, k = m + 1 := ⟨k - 1, by omega⟩
    simp only [impl_MelodyValid.l0]
    rw [if_neg (by omega), List.drop_eq_nil_of_le (by omega)]
    rfl
  | succ d ih =>
    intro i k hi hk
    obtain ⟨k, rfl⟩ : ∃ m, k = m + 1 := ⟨k - 1, by omega⟩
    have hx : i < l.length := by omega
    simp only [impl_MelodyValid.l0]
    rw [if_pos (by omega), if_pos (by omega), if_pos (by omega), rdt_at l i hx, tv_impl, List.drop_eq_getElem_cons hx, List.all_cons]
    simp only [Option.bind_some]
    by_cases ht : tv l[i].f0 l[i].f1 = true
    · rw [if_pos ht, w1 (by omega), ih (i + 1) k (by omega) (by omega), show tvv l[i] = true from ht, Bool.true_and]
    · rw [if_neg ht, show tvv l[i] = false from Bool.eq_false_iff.mpr ht, Bool.false_and]
theorem mvi_f (l : List S30) (k : Nat) (hk : 25 ≤ k) : impl_MelodyValid.f k l = some (MV l) := by
  unfold impl_MelodyValid.f MV
  by_cases h : l.length ≤ 24
  · rw [if_neg (by omega), decide_eq_true h, Bool.true_and]
    simpa using mvi_l0 l (by omega) l.length 0 k (by omega) (by omega)
  · rw [if_pos (by omega), decide_eq_false h, Bool.false_and]

theorem mjoin_append (xs ys : List ByteArray) (hx : xs ≠ []) (hy : ys ≠ []) : mjoin (xs ++ ys) = mjoin xs ++ ⟨#[32]⟩ ++ mjoin ys := by
  cases xs with
  | nil => exact absurd rfl hx
  | cons x r =>
    cases ys with
    | nil => exact absurd rfl hy
    | cons y s =>
      apply ByteArray.ext
      rw [ByteArray.data_append, ByteArray.data_append]
      apply Array.ext'
      unfold mjoin
      simp [Lib.join_cons, Lib.joinTail, List.append_assoc]
theorem mti_f (l : List S30) (k : Nat) (hk : 25 ≤ k) : impl_MelodyText.f k l = some (if MV l = true then mjoin (l.map ttx) else ⟨#[]⟩) := by
  unfold impl_MelodyText.f
  rw [mvi_f l k hk, Option.bind_some]
theorem mjoin_size {l : List S30} (h : MV l = true) : (mjoin (l.map ttx)).size ≤ 96 := by
  have h1 := mvi_f l 25 (by omega)
  rw [h] at h1
  obtain ⟨h2, h3⟩ := mv_facts h1
  have := mt_small l h3
  show (Lib.join ((l.map ttx).map (·.data.toList)) [32]).length ≤ 96
  omega
theorem tv_bd {a : Int} {b : Bool} (h : tv a b = true) : 0 ≤ a ∧ a ≤ 20 := by
  unfold tv at h
  simp only [Bool.and_eq_true, decide_eq_true_eq] at h
  exact ⟨h.1, h.2.1⟩
def tfOk' (s : ByteArray) (m : Nat) (b : Bool) : Bool := (impl_Tone_valid.f (m : Int) b == some true) && (((impl_Tone_text.f (m : Int) b).getD ⟨#[]⟩).data.toList == s.data.toList)
def tfGo' (s : ByteArray) : Nat → Nat → S30 × Bool
  | 0, _ => (⟨0, false⟩, false)
  | d + 1, m => if tfOk' s m false = true then (⟨(m : Int), false⟩, true) else if tfOk' s m true = true then (⟨(m : Int), true⟩, true) else tfGo' s d (m + 1)
theorem tfOk_eq (s : ByteArray) (m : Nat) (b : Bool) : tfOk s m b = tfOk' s m b := by
  unfold tfOk tfOk'
  rw [ByteArray.toList_eq, ByteArray.toList_eq]
theorem tfGo_eq (s : ByteArray) : ∀ d m, tfGo s d m = tfGo' s d m
  | 0, _ => rfl
  | d + 1, m => by
    simp only [tfGo, tfGo']
    rw [tfOk_eq, tfOk_eq, tfGo_eq s d (m + 1)]
theorem tf_dec : ∀ m, m < 21 → ∀ b : Bool, tv ((m : Nat) : Int) b = true → (tfGo' ((impl_Tone_text.f (m : Int) b).getD ⟨#[]⟩) 21 0).1.f0 = (m : Int) ∧ (tfGo' ((impl_Tone_text.f (m : Int) b).getD ⟨#[]⟩) 21 0).1.f1 = b ∧ (tfGo' ((impl_Tone_text.f (m : Int) b).getD ⟨#[]⟩) 21 0).2 = true := by decide +kernel
theorem tf_ttx {t : S30} (h : tvv t = true) : tfGo (ttx t) 21 0 = (t, true) := by
  obtain ⟨a, b⟩ := t
  have hb := tv_bd (show tv a b = true from h)
  obtain ⟨m, rfl⟩ := Int.eq_ofNat_of_zero_le hb.1
  obtain ⟨h1, h2, h3⟩ := tf_dec m (by omega) b h
  rw [tfGo_eq]
  show tfGo' ((impl_Tone_text.f (m : Int) b).getD ⟨#[]⟩) 21 0 = _
  generalize tfGo' ((impl_Tone_text.f (m : Int) b).getD ⟨#[]⟩) 21 0 = P at h1 h2 h3 ⊢
  obtain ⟨⟨x, y⟩, z⟩ := P
  have g1 : x = (m : Int) := h1
  have g2 : y = b := h2
  have g3 : z = true := h3
  rw [g1, g2, g3]
theorem ttx_all : ∀ m, m < 21 → ∀ b : Bool, ((impl_Tone_text.f ((m : Nat) : Int) b).getD ⟨#[]⟩).data.toList ≠ [] ∧ ¬ (32 : UInt8) ∈ ((impl_Tone_text.f ((m : Nat) : Int) b).getD ⟨#[]⟩).data.toList := by decide +kernel
theorem ttx_facts {t : S30} (h : tvv t = true) : (ttx t).data.toList ≠ [] ∧ ¬ (32 : UInt8) ∈ (ttx t).data.toList := by
  obtain ⟨a, b⟩ := t
  have hb := tv_bd (show tv a b = true from h)
  obtain ⟨m, rfl⟩ := Int.eq_ofNat_of_zero_le hb.1
  exact ttx_all m (by omega) b
theorem idx_miss : ∀ l : List UInt8, ¬ (32 : UInt8) ∈ l → Lib.index l [32] = -1
  | [], _ => rfl
  | b :: l, h => by
    have ih := idx_miss l (fun x => h (List.mem_cons_of_mem _ x))
    have hb : (32 : UInt8) ≠ b := fun e => h (by rw [e]; exact List.mem_cons_self ..)
    unfold Lib.index
    rw [if_neg (by simpa [List.isPrefixOf] using hb), ih]
    rfl
theorem idx_hit : ∀ (l r : List UInt8), ¬ (32 : UInt8) ∈ l → Lib.index (l ++ 32 :: r) [32] = (l.length : Int)
  | [], r, _ => by
    show Lib.index (32 :: r) [32] = 0
    unfold Lib.index
    rw [if_pos (by simp [List.isPrefixOf])]
  | b :: l, r, h => by
    have ih := idx_hit l r (fun x => h (List.mem_cons_of_mem _ x))
    have hb : (32 : UInt8) ≠ b := fun e => h (by rw [e]; exact List.mem_cons_self ..)
    rw [List.cons_append]
    unfold Lib.index
    rw [if_neg (by simpa [List.isPrefixOf] using hb), ih, if_neg (by simp), List.length_cons]
    omega
theorem split_join : ∀ xs : List (List UInt8), xs ≠ [] → (∀ x ∈ xs, ¬ (32 : UInt8) ∈ x) → Lib.splitK [32] 0 (Lib.count (Lib.join xs [32]) [32]) (Lib.join xs [32]) = xs
  | [], h, _ => absurd rfl h
  | [x], _, h => by
    rw [Lib.join_one]
    have hx := idx_miss x (h x (List.mem_singleton.2 rfl))
    cases Lib.count x [32] with
    | zero => rfl
    | succ k =>
      unfold Lib.splitK
      rw [hx, if_pos (by rfl)]
  | x :: y :: r, _, h => by
    have ih := split_join (y :: r) (by simp) (fun z hz => h z (List.mem_cons_of_mem _ hz))
    have hx := h x (List.mem_cons_self ..)
    have e : Lib.join (x :: y :: r) [32] = x ++ 32 :: Lib.join (y :: r) [32] := by
      rw [Lib.join_cons, Lib.join_cons]
      simp [Lib.joinTail]
    rw [e]
    have hi := idx_hit x (Lib.join (y :: r) [32]) hx
    have hc := Lib.count_hit (s := x ++ 32 :: Lib.join (y :: r) [32]) (sub := [32]) (by simp) hi
    have hd : (x ++ 32 :: Lib.join (y :: r) [32]).drop (x.length + 1) = Lib.join (y :: r) [32] := by
      rw [List.drop_append, List.drop_eq_nil_of_le (by omega), List.nil_append, show x.length + 1 - x.length = 1 by omega]
      rfl
    rw [show x.length + [(32 : UInt8)].length = x.length + 1 from rfl, hd] at hc
    rw [hc, Nat.add_comm]
    unfold Lib.splitK
    rw [hi, if_neg (by simp)]
    have e2 : ((x.length : Nat) : Int).toNat = x.length := Int.toNat_natCast _
    rw [e2, show x.length + [(32 : UInt8)].length = x.length + 1 from rfl, hd, ih, Nat.add_zero, List.take_append_of_le_length (Nat.le_refl _), List.take_length]
theorem map_data_inj : ∀ a b : List ByteArray, a.map (·.data.toList) = b.map (·.data.toList) → a = b
  | [], [], _ => rfl
  | [], y :: b, h => by simp at h
  | x :: a, [], h => by simp at h
  | x :: a, y :: b, h => by
    rw [List.map_cons, List.map_cons] at h
    obtain ⟨h1, h2⟩ := List.cons.inj h
    rw [map_data_inj a b h2]
    congr 1
    apply ByteArray.ext
    exact Array.ext' h1
theorem splitW_join (ws : List ByteArray) (h0 : ws ≠ []) (h : ∀ x ∈ ws, ¬ (32 : UInt8) ∈ x.data.toList) : splitW (mjoin ws) = ws := by
  apply map_data_inj
  unfold splitW
  rw [Lib.splitB_data]
  refine split_join (ws.map (·.data.toList)) (by simpa using h0) ?_
  intro x hx
  obtain ⟨b, hb, rfl⟩ := List.mem_map.1 hx
  exact h b hb
theorem mfGo_ttx : ∀ (l acc : List S30), l.all tvv = true → acc.length + l.length ≤ 24 → mfGo (l.map ttx) acc = some (acc ++ l)
  | [], acc, _, _ => by simp [mfGo]
  | t :: l, acc, h, hl => by
    rw [List.all_cons, Bool.and_eq_true] at h
    rw [List.length_cons] at hl
    rw [List.map_cons]
    simp only [mfGo]
    rw [tf_ttx h.1, if_neg (by simp), if_neg (by omega), mfGo_ttx l _ h.2 (by rw [List.length_append]; simp; omega), List.append_assoc]
    rfl
theorem back_l0 (m : List S30) (hm : m.length ≤ 24) : ∀ (d i k : Nat), i + d = m.length → d < k → impl_MelodyBack.l0 k m (List.replicate (m.length - i) z30 ++ (m.take i).reverse) m (m.length : Int) (i : Int) = some (m.reverse, true) := by
  intro d
  induction d with
  | zero =>
    intro i k hi hk
    obtain ⟨k, rfl⟩ : ∃ m, k = m + 1 := ⟨k - 1, by omega⟩
    simp only [impl_MelodyBack.l0]
    rw [if_neg (by omega), show m.length - i = 0 by omega, List.replicate_zero, List.nil_append, List.take_of_length_le (by omega)]
  | succ d ih =>
    intro i k hi hk
    obtain ⟨k, rfl⟩ : ∃ m, k = m + 1 := ⟨k - 1, by omega⟩
    have hlt : i < m.length := by omega
    have e1 : wrap64 (wrap64 ((m.length : Int) - 1) - (i : Int)) = ((m.length - (i + 1) : Nat) : Int) := by
      rw [w0 (i := (m.length : Int) - 1) (by omega) (by omega), w0 (by omega) (by omega)]
      omega
    have hl : (List.replicate (m.length - i) z30 ++ (m.take i).reverse).length = m.length := by
      rw [List.length_append, List.length_replicate, List.length_reverse, List.length_take]
      omega
    simp only [impl_MelodyBack.l0]
    rw [if_pos (by omega), if_pos (by omega), if_pos (by omega), e1, if_pos (by omega), if_pos (by rw [hl]; omega), rdt_at m i hlt, Int.toNat_natCast, w1 (by omega)]
    have e2 : (List.replicate (m.length - i) z30 ++ (m.take i).reverse).set (m.length - (i + 1)) (⟨m[i].f0, m[i].f1⟩ : S30) = List.replicate (m.length - (i + 1)) z30 ++ (m.take (i + 1)).reverse := by
      rw [show m.length - i = (m.length - (i + 1)) + 1 by omega, List.replicate_succ', List.append_assoc, List.set_append_right _ _ (by rw [List.length_replicate]; exact Nat.le_refl _), List.length_replicate, Nat.sub_self, List.take_succ_eq_append_getElem hlt, List.reverse_append]
      rfl
    rw [e2]
    exact ih (i + 1) k (by omega) (by omega)
theorem back_f (m : List S30) (k : Nat) (hk : 60 ≤ k) : impl_MelodyBack.f k m = some (if MV m = true then (m.reverse, true) else ([], false)) := by
  unfold impl_MelodyBack.f
  rw [mvi_f m k (by omega), Option.bind_some]
  by_cases h : MV m = true
  · have hm : m.length ≤ 24 := by
      unfold MV at h
      rw [Bool.and_eq_true, decide_eq_true_eq] at h
      exact h.1
    rw [if_pos h, if_pos h, if_pos (by omega), Int.toNat_natCast, if_pos (by omega)]
    have := back_l0 m hm m.length 0 k (by omega) (by omega)
    rw [Nat.sub_zero, List.take_zero, List.reverse_nil, List.append_nil] at this
    exact this
  · rw [if_neg h, if_neg h]
theorem MV_reverse (m : List S30) : MV m.reverse = MV m := by
  unfold MV
  rw [List.length_reverse, List.all_reverse]
def sp32 : List UInt8 → Int
  | [] => 0
  | b :: t => (if b = 32 then 1 else 0) + sp32 t
theorem sp32_append : ∀ a b : List UInt8, sp32 (a ++ b) = sp32 a + sp32 b
  | [], b => by simp [sp32]
  | x :: a, b => by
    have := sp32_append a b
    simp only [List.cons_append, sp32]
    omega
theorem sp32_bd : ∀ a : List UInt8, 0 ≤ sp32 a ∧ sp32 a ≤ a.length
  | [] => by simp [sp32]
  | x :: a => by
    have := sp32_bd a
    simp only [sp32, List.length_cons]
    split <;> omega
theorem sp32_tail : ∀ r : List (List UInt8), (∀ x ∈ r, sp32 x = 0) → sp32 (Lib.joinTail [32] r) = r.length
  | [], _ => by simp [Lib.joinTail, sp32]
  | x :: r, h => by
    have ih := sp32_tail r (fun z hz => h z (List.mem_cons_of_mem _ hz))
    have hx := h x (List.mem_cons_self ..)
    unfold Lib.joinTail at ih ⊢
    rw [List.map_cons, List.flatten_cons, sp32_append, sp32_append, ih, hx, List.length_cons]
    show (1 + 0) + 0 + (r.length : Int) = _
    omega
theorem names_l0 (s : ByteArray) (hb : s.size ≤ 1048576) : ∀ (d i k : Nat) (c : Int), i + d = s.size → d < k → 0 ≤ c → c ≤ i + 1 → laws_names.l0 k s c (i : Int) = some (c + sp32 (s.data.toList.drop i)) := by
  intro d
  induction d with
  | zero =>
    intro i k c hi hk h0 h1
    obtain ⟨k, rfl⟩ : ∃ m, k = m + 1 := ⟨k - 1, by omega⟩
    simp only [laws_names.l0]
    rw [if_neg (by omega), List.drop_eq_nil_of_le (by show s.size ≤ i; omega)]
    simp [sp32]
  | succ d ih =>
    intro i k c hi hk h0 h1
    obtain ⟨k, rfl⟩ : ∃ m, k = m + 1 := ⟨k - 1, by omega⟩
    have hlt : i < s.size := by omega
    have hl : i < s.data.toList.length := hlt
    have hbt : bt s (i : Int) = ((s.data.toList[i]).toNat : Int) := by
      unfold bt
      rw [dif_pos (by rw [Int.toNat_natCast]; exact hlt)]
      rfl
    simp only [laws_names.l0]
    rw [if_pos (by omega), if_pos (by omega), hbt, w1 (by omega), List.drop_eq_getElem_cons hl]
    simp only [sp32]
    by_cases h : s.data.toList[i] = 32
    · rw [if_pos h, h, if_pos (by rfl), w0 (by omega) (by omega), ih (i + 1) k (c + 1) (by omega) (by omega) (by omega) (by omega), Int.add_assoc]
    · rw [if_neg h, if_neg, ih (i + 1) k c (by omega) (by omega) (by omega) (by omega), Int.zero_add]
      intro e
      apply h
      apply UInt8.toNat_inj.1
      show s.data.toList[i].toNat = 32
      omega
theorem rdt_at' (xs : List S30) (i : Nat) (h : i < xs.length) : rd_T30 xs (i : Int) = xs[i] := by
  simp [rd_T30, List.getD_eq_getElem?_getD, h]
theorem sameT_l0 (xs : List S30) (hb : xs.length ≤ 1048576) : ∀ (d i k : Nat), i + d = xs.length → d < k → laws_sameTones.l0 k xs xs (i : Int) = some true := by
  intro d
  induction d with
  | zero =>
    intro i k hi hk
    obtain ⟨k, rfl⟩ : ∃ m, k = m + 1 := ⟨k - 1, by omega⟩
    simp only [laws_sameTones.l0]
    rw [if_neg (by omega)]
  | succ d ih =>
    intro i k hi hk
    obtain ⟨k, rfl⟩ : ∃ m, k = m + 1 := ⟨k - 1, by omega⟩
    simp only [laws_sameTones.l0]
    rw [if_pos (by omega), if_pos (by omega), if_pos (by omega), if_neg (by simp), w1 (by omega)]
    exact ih (i + 1) k (by omega) (by omega)
theorem sameT_f (xs : List S30) (k : Nat) (hb : xs.length ≤ 1048576) (hk : xs.length < k) : laws_sameTones.f k xs xs = some true := by
  unfold laws_sameTones.f
  rw [if_pos rfl]
  simpa using sameT_l0 xs hb xs.length 0 k (by omega) hk
theorem xor_nn (a b : Int) (ha : 0 ≤ a) (ha' : a < 4611686018427387904) (hb : 0 ≤ b) (hb' : b < 4611686018427387904) : 0 ≤ Go.bits .xor .i64 a b := by
  obtain ⟨x, rfl⟩ := Int.eq_ofNat_of_zero_le ha
  obtain ⟨y, rfl⟩ := Int.eq_ofNat_of_zero_le hb
  have hx : x ^^^ y < 2 ^ 62 := Nat.xor_lt_two_pow (by omega) (by omega)
  have h1 : (BitVec.ofInt 64 (x : Int)).toNat = x := by
    rw [BitVec.ofInt_natCast, BitVec.toNat_ofNat]; exact Nat.mod_eq_of_lt (by omega)
  have h2 : (BitVec.ofInt 64 (y : Int)).toNat = y := by
    rw [BitVec.ofInt_natCast, BitVec.toNat_ofNat]; exact Nat.mod_eq_of_lt (by omega)
  have e : Go.bits .xor .i64 (x : Int) (y : Int) = IntKind.i64.wrap (((x ^^^ y : Nat)) : Int) := by
    show IntKind.i64.wrap ((BitVec.ofInt 64 (x : Int) ^^^ BitVec.ofInt 64 (y : Int)).toNat : Int) = _
    rw [BitVec.toNat_xor, h1, h2]
  rw [e, IntWalk.i64_in _ (by omega)]
  omega
/-- A list of bytes. -/
def Bytes (l : List Int) : Prop := ∀ n ∈ l, 0 ≤ n ∧ n ≤ 255
theorem rd_byte {l : List Int} (h : Bytes l) (i : Int) (h0 : 0 ≤ i) (h1 : i < (l.length : Int)) : 0 ≤ rd l i ∧ rd l i ≤ 255 := by
  obtain ⟨n, rfl⟩ := Int.eq_ofNat_of_zero_le h0
  have hn : n < l.length := by omega
  rw [rd_at l n hn]
  exact h _ (List.getElem_mem hn)
theorem tm_bd (a n : Int) (ha : 0 ≤ a) (hn : 0 < n) : 0 ≤ Int.tmod a n ∧ Int.tmod a n < n := by
  rw [Int.tmod_eq_emod_of_nonneg ha]
  exact ⟨Int.emod_nonneg _ (by omega), Int.emod_lt_of_pos _ hn⟩
theorem td_bd (a n : Int) (ha : 0 ≤ a) (hn : 0 < n) : 0 ≤ Int.tdiv a n ∧ Int.tdiv a n ≤ a := by
  rw [Int.tdiv_eq_ediv_of_nonneg ha]
  exact ⟨Int.ediv_nonneg ha (by omega), Int.ediv_le_self _ ha⟩
theorem pick_some (l : List Int) (hl : Bytes l) (hn : l.length ≤ 2000) (p n : Int) (hp : 0 ≤ p) (hp' : p ≤ 1000000) (h1 : 1 ≤ n) (h2 : n ≤ 1000000) :
    ∃ v, 0 ≤ v ∧ v < n ∧ ∀ k, spec_l6Rd_pick.f (k + 1) l p n = some (v, p + 1) := by
  unfold spec_l6Rd_pick.f
  simp only [spec_l6Rd_pick.j0]
  rw [if_neg (show ¬ n < 1 by omega), w0 (i := p + 1) (by omega) (by omega), show p + 1 - 1 = p by omega, w0 (i := p) (by omega) (by omega)]
  by_cases hl0 : l.length = 0
  · refine ⟨0, by omega, by omega, fun k => ?_⟩
    rw [if_pos (show ((l.length : Int) == 0) = true by rw [hl0]; rfl)]
  · rw [if_neg (show ¬ (((l.length : Int) == 0) = true) from fun h => hl0 (by have := beq_iff_eq.1 h; omega))]
    have hlp : (0 : Int) < (l.length : Int) := by omega
    by_cases hpl : p < (l.length : Int)
    · obtain ⟨b0, b1⟩ := rd_byte hl p hp hpl
      rw [if_pos hpl, if_pos hp, if_neg (show ¬ n = 0 by omega), w0 (i := rd l p) (by omega) (by omega)]
      obtain ⟨t0, t1⟩ := tm_bd (rd l p) n b0 (by omega)
      exact ⟨_, t0, t1, fun _ => rfl⟩
    · rw [if_neg hpl, if_neg (show ¬ (l.length : Int) = 0 by omega), w0 (i := p * 7) (by omega) (by omega), w0 (i := p * 7 + 3) (by omega) (by omega)]
      obtain ⟨i0, i1⟩ := tm_bd p (l.length : Int) hp hlp
      obtain ⟨j0, j1⟩ := tm_bd (p * 7 + 3) (l.length : Int) (by omega) hlp
      obtain ⟨q0, q1⟩ := td_bd p (l.length : Int) hp hlp
      rw [if_pos i0, if_pos i1, if_pos j0, if_pos j1, if_neg (show ¬ n = 0 by omega)]
      obtain ⟨a0, a1⟩ := rd_byte hl _ i0 i1
      obtain ⟨b0, b1⟩ := rd_byte hl _ j0 j1
      generalize rd l (Int.tmod p (l.length : Int)) = a at a0 a1 ⊢
      generalize rd l (Int.tmod (p * 7 + 3) (l.length : Int)) = b at b0 b1 ⊢
      generalize Int.tdiv p (l.length : Int) = q at q0 q1 ⊢
      simp (disch := omega) only [w0]
      have x0 : 0 ≤ a * 131 + b * 1117 + p * 29 + q * 53 := by omega
      obtain ⟨d0, d1⟩ := td_bd (a * 131 + b * 1117 + p * 29 + q * 53) 64 x0 (by omega)
      rw [w0 (i := Int.tdiv (a * 131 + b * 1117 + p * 29 + q * 53) 64) (by omega) (by omega)]
      obtain ⟨t0, t1⟩ := tm_bd (Go.bits .xor .i64 (a * 131 + b * 1117 + p * 29 + q * 53) (Int.tdiv (a * 131 + b * 1117 + p * 29 + q * 53) 64)) n (xor_nn _ _ x0 (by omega) d0 (by omega)) (by omega)
      exact ⟨_, t0, t1, fun _ => rfl⟩
/-- What a reader's pick answers. -/
def pk (l : List Int) (p n : Int) : Int := ((spec_l6Rd_pick.f 1 l p n).getD (0, 0)).1
structure Rdr (l : List Int) : Prop where
  bytes : Bytes l
  len : l.length ≤ 2000
theorem pk_f {l : List Int} (h : Rdr l) (p n : Int) (k : Nat) (hp : 0 ≤ p) (hp' : p ≤ 1000000) (h1 : 1 ≤ n) (h2 : n ≤ 1000000) (hk : 1 ≤ k) : spec_l6Rd_pick.f k l p n = some (pk l p n, p + 1) := by
  obtain ⟨v, _, _, hv⟩ := pick_some l h.bytes h.len p n hp hp' h1 h2
  unfold pk
  rw [hv 0]
  obtain ⟨k, rfl⟩ : ∃ m, k = m + 1 := ⟨k - 1, by omega⟩
  rw [hv k]
  rfl
theorem pk_bd {l : List Int} (h : Rdr l) (p n : Int) (hp : 0 ≤ p) (hp' : p ≤ 1000000) (h1 : 1 ≤ n) (h2 : n ≤ 1000000) : 0 ≤ pk l p n ∧ pk l p n < n := by
  obtain ⟨v, h3, h4, hv⟩ := pick_some l h.bytes h.len p n hp hp' h1 h2
  unfold pk
  rw [hv 0]
  exact ⟨h3, h4⟩
theorem open_f (l : List Int) (hl : Bytes l) : ∃ s, spec_l6Open.f l = some (s, 0) ∧ Rdr s := by
  unfold spec_l6Open.f
  by_cases h : (l.length : Int) > 2000
  · rw [if_pos h, if_pos (by omega)]
    exact ⟨_, rfl, ⟨fun n hn => hl n (List.mem_of_mem_take hn), by simp; omega⟩⟩
  · rw [if_neg h]
    exact ⟨_, rfl, ⟨hl, by omega⟩⟩
theorem bytes_of {l : List Int} (h : ∀ n ∈ l, (Lit.int .u8 n).wf = true) : Bytes l := fun n hn => by
  have := h n hn
  simp [Lit.wf, IntKind.min, IntKind.max, IntKind.signed, IntKind.bits] at this
  omega
theorem letter_f (a : Int) : spec_l1Letter.f a = some (Int.tmod a 7) := rfl
theorem clamp_bd (a b x : Int) (h : a ≤ b) : a ≤ mx a (mn b x) ∧ mx a (mn b x) ≤ b := by
  unfold mx mn
  constructor <;> (repeat' split) <;> omega
theorem mel_end (l : List Int) (h : Rdr l) (acc : List S30) (n : Nat) (x p : Int) (hn : n ≤ 20) (ha : acc.length = n) (hp : 0 ≤ p) (hp' : p ≤ 100000) :
    ∃ m q, m.length = n ∧ p ≤ q ∧ q ≤ p + 2 ∧ ∀ k, 2 ≤ k → spec_l91Melody.l0 k acc (n : Int) x (n : Int) l p = some (m, q) := by
  by_cases h0 : n = 0
  · refine ⟨acc, p, ha, by omega, by omega, fun k hk => ?_⟩
    obtain ⟨k, rfl⟩ : ∃ m, k = m + 1 := ⟨k - 1, by omega⟩
    simp only [spec_l91Melody.l0]
    rw [if_neg (by omega), if_neg (by omega)]
  · by_cases h1 : pk l p 50 = 0
    · obtain ⟨v0, v1⟩ := pk_bd h (p + 1) 3 (by omega) (by omega) (by omega) (by omega)
      refine ⟨acc.set (0 : Int).toNat ⟨rd ([-1, 21, 20] : List Int) (pk l (p + 1) 3), (rd_T30 acc 0).f1⟩, p + 1 + 1, by simp [ha], by omega, by omega, fun k hk => ?_⟩
      obtain ⟨k, rfl⟩ : ∃ m, k = m + 1 := ⟨k - 1, by omega⟩
      simp only [spec_l91Melody.l0]
      rw [if_neg (by omega), if_pos (by omega), pk_f h p 50 k (by omega) (by omega) (by omega) (by omega) (by omega)]
      simp only [Option.bind_some]
      rw [if_pos h1, pk_f h (p + 1) 3 k (by omega) (by omega) (by omega) (by omega) (by omega)]
      simp only [Option.bind_some]
      rw [if_pos v0, if_pos (by simpa using v1), if_pos (by omega)]
    · by_cases h2 : pk l p 50 = 1
      · have e : wrap64 ((n : Int) - 1) = ((n - 1 : Nat) : Int) := by rw [w0 (by omega) (by omega)]; omega
        refine ⟨acc.set (((n - 1 : Nat) : Int)).toNat ⟨(rd_T30 acc ((n - 1 : Nat) : Int)).f0, true⟩, p + 1, by simp [ha], by omega, by omega, fun k hk => ?_⟩
        obtain ⟨k, rfl⟩ : ∃ m, k = m + 1 := ⟨k - 1, by omega⟩
        simp only [spec_l91Melody.l0]
        rw [if_neg (by omega), if_pos (by omega), pk_f h p 50 k (by omega) (by omega) (by omega) (by omega) (by omega)]
        simp only [Option.bind_some]
        rw [if_neg h1, if_pos h2, e, if_pos (by omega), if_pos (by omega)]
      · refine ⟨acc, p + 1, ha, by omega, by omega, fun k hk => ?_⟩
        obtain ⟨k, rfl⟩ : ∃ m, k = m + 1 := ⟨k - 1, by omega⟩
        simp only [spec_l91Melody.l0]
        rw [if_neg (by omega), if_pos (by omega), pk_f h p 50 k (by omega) (by omega) (by omega) (by omega) (by omega)]
        simp only [Option.bind_some]
        rw [if_neg h1, if_neg h2]
theorem mel_l0 (l : List Int) (h : Rdr l) (n : Nat) (hn : n ≤ 20) : ∀ (d i : Nat) (acc : List S30) (x p : Int), i + d = n → acc.length = i → 0 ≤ x → x ≤ 20 → 0 ≤ p → p ≤ 10000 + 2 * i →
    ∃ m q, m.length = n ∧ p ≤ q ∧ q ≤ p + 2 * d + 2 ∧ ∀ k, d + 2 ≤ k → spec_l91Melody.l0 k acc (n : Int) x (i : Int) l p = some (m, q) := by
  intro d
  induction d with
  | zero =>
    intro i acc x p hi ha h0 h1 hp hp'
    have e : i = n := by omega
    subst e
    obtain ⟨m, q, hm, q0, q1, hq⟩ := mel_end l h acc i x p hn ha hp (by omega)
    exact ⟨m, q, hm, q0, by omega, fun k hk => hq k (by omega)⟩
  | succ d ih =>
    intro i acc x p hi ha h0 h1 hp hp'
    by_cases hx : Int.tmod x 7 = 2
    · obtain ⟨v0, v1⟩ := pk_bd h (p + 1) 5 (by omega) (by omega) (by omega) (by omega)
      obtain ⟨c0, c1⟩ := clamp_bd 1 15 (x + pk l (p + 1) 5 - 2) (by omega)
      obtain ⟨m, q, hm, q0, q1, hq⟩ := ih (i + 1) (acc ++ [⟨x, pk l p 3 == 0⟩]) (mx 1 (mn 15 (x + pk l (p + 1) 5 - 2))) (p + 1 + 1) (by omega) (by simp [ha]) (by omega) (by omega) (by omega) (by omega)
      refine ⟨m, q, hm, by omega, by omega, fun k hk => ?_⟩
      obtain ⟨k, rfl⟩ : ∃ m, k = m + 1 := ⟨k - 1, by omega⟩
      simp only [spec_l91Melody.l0]
      rw [if_pos (by omega), letter_f]
      simp only [Option.bind_some]
      rw [if_pos hx, pk_f h p 3 k (by omega) (by omega) (by omega) (by omega) (by omega)]
      simp only [Option.bind_some]
      rw [if_pos (by omega), pk_f h (p + 1) 5 k (by omega) (by omega) (by omega) (by omega) (by omega)]
      simp only [Option.bind_some]
      rw [w1 (by omega), w0 (i := x + pk l (p + 1) 5) (by omega) (by omega), w0 (i := x + pk l (p + 1) 5 - 2) (by omega) (by omega)]
      exact hq k (by omega)
    · obtain ⟨v0, v1⟩ := pk_bd h p 5 (by omega) (by omega) (by omega) (by omega)
      obtain ⟨c0, c1⟩ := clamp_bd 1 15 (x + pk l p 5 - 2) (by omega)
      obtain ⟨m, q, hm, q0, q1, hq⟩ := ih (i + 1) (acc ++ [⟨x, false⟩]) (mx 1 (mn 15 (x + pk l p 5 - 2))) (p + 1) (by omega) (by simp [ha]) (by omega) (by omega) (by omega) (by omega)
      refine ⟨m, q, hm, by omega, by omega, fun k hk => ?_⟩
      obtain ⟨k, rfl⟩ : ∃ m, k = m + 1 := ⟨k - 1, by omega⟩
      simp only [spec_l91Melody.l0]
      rw [if_pos (by omega), letter_f]
      simp only [Option.bind_some]
      rw [if_neg hx, if_pos (by omega), pk_f h p 5 k (by omega) (by omega) (by omega) (by omega) (by omega)]
      simp only [Option.bind_some]
      rw [w1 (by omega), w0 (i := x + pk l p 5) (by omega) (by omega), w0 (i := x + pk l p 5 - 2) (by omega) (by omega)]
      exact hq k (by omega)
theorem mel_d (l : List Int) (h : Rdr l) (p : Int) (a : Nat) (ha : a ≤ 20) (hp : 0 ≤ p) (hp' : p ≤ 5000) : ∃ m q, m.length ≤ a ∧ p ≤ q ∧ q ≤ p + 100 ∧ ∀ k, 40 ≤ k → spec_l91Melody.f k l p (a : Int) = some (m, q) := by
  obtain ⟨v0, v1⟩ := pk_bd h p ((a : Int) + 1) (by omega) (by omega) (by omega) (by omega)
  obtain ⟨u0, u1⟩ := pk_bd h (p + 1) 5 (by omega) (by omega) (by omega) (by omega)
  obtain ⟨n, hn⟩ := Int.eq_ofNat_of_zero_le v0
  obtain ⟨m, q, hm, q0, q1, hq⟩ := mel_l0 l h n (by omega) n 0 [] (4 + pk l (p + 1) 5) (p + 1 + 1) (by omega) rfl (by omega) (by omega) (by omega) (by omega)
  refine ⟨m, q, by omega, by omega, by omega, fun k hk => ?_⟩
  unfold spec_l91Melody.f
  rw [w0 (i := (a : Int) + 1) (by omega) (by omega), pk_f h p ((a : Int) + 1) k (by omega) (by omega) (by omega) (by omega) (by omega)]
  simp only [Option.bind_some]
  rw [pk_f h (p + 1) 5 k (by omega) (by omega) (by omega) (by omega) (by omega)]
  simp only [Option.bind_some]
  rw [w0 (i := 4 + pk l (p + 1) 5) (by omega) (by omega), hn]
  exact hq k (by omega)
theorem stt_all : ∀ m, m < 21 → ∀ b : Bool, tv ((m : Nat) : Int) b = true → (spec_ToneText.f 3 (m : Int) b).map (·.data) = some ((impl_Tone_text.f (m : Int) b).getD ⟨#[]⟩).data := by decide +kernel
theorem mono_up {α : Type} {f : Nat → Option α} (h : ∀ j, LeO (f j) (f (j + 1))) {j : Nat} : ∀ (k : Nat) (r : α), f j = some r → f (j + k) = some r
  | 0, _, e => e
  | k + 1, r, e => h (j + k) r (mono_up h k r e)
theorem stt_f {t : S30} (h : tvv t = true) (k : Nat) (hk : 3 ≤ k) : spec_ToneText.f k t.f0 t.f1 = some (ttx t) := by
  obtain ⟨a, b⟩ := t
  have hb := tv_bd (show tv a b = true from h)
  obtain ⟨m, rfl⟩ := Int.eq_ofNat_of_zero_le hb.1
  have e := stt_all m (by omega) b h
  cases hs : spec_ToneText.f 3 (m : Int) b with
  | none => rw [hs] at e; simp at e
  | some v =>
    rw [hs] at e
    have e2 : v = ttx ⟨(m : Int), b⟩ := ByteArray.ext (Option.some.inj e)
    have := mono_up (f := fun k => spec_ToneText.f k (m : Int) b) (fun j => spec_ToneText.mono _ _ j) (k - 3) v hs
    rw [show 3 + (k - 3) = k by omega] at this
    rw [← e2]
    exact this
theorem mj_one (b : ByteArray) : mjoin [b] = b := by
  unfold mjoin
  rw [List.map_cons, List.map_nil, Lib.join_one]
theorem smt_l0 (m : List S30) (h : MV m = true) : ∀ (d i k : Nat), i + d = m.length → 2 * d + 40 < k → spec_MelodyText.l0 k m (mjoin ((m.take i).map ttx)) (i : Int) = some (mjoin (m.map ttx)) := by
  have hv := mvi_f m 25 (by omega)
  rw [h] at hv
  obtain ⟨hm, hf⟩ := mv_facts hv
  have ha : m.all tvv = true := by unfold MV at h; rw [Bool.and_eq_true] at h; exact h.2
  intro d
  induction d with
  | zero =>
    intro i k hi hk
    obtain ⟨k, rfl⟩ : ∃ m, k = m + 2 := ⟨k - 2, by omega⟩
    simp only [spec_MelodyText.l0]
    rw [if_neg (by omega)]
    simp only [spec_MelodyText.j1]
    rw [if_neg (by decide), List.take_of_length_le (by omega)]
  | succ d ih =>
    intro i k hi hk
    obtain ⟨k, rfl⟩ : ∃ m, k = m + 2 := ⟨k - 2, by omega⟩
    have hlt : i < m.length := by omega
    have hs := mt_small (m.take i) (fun t ht => hf t (List.mem_of_mem_take ht))
    rw [List.length_take] at hs
    have hsz : (mjoin ((m.take i).map ttx)).size ≤ 96 := by
      show (Lib.join (((m.take i).map ttx).map (·.data.toList)) [32]).length ≤ 96
      omega
    have htv : tvv m[i] = true := List.all_eq_true.1 ha _ (List.getElem_mem hlt)
    have ht3 : (ttx m[i]).size ≤ 3 := (text_some (hf _ (List.getElem_mem hlt)).1 (hf _ (List.getElem_mem hlt)).2).2
    have next := ih (i + 1) k (by omega) (by omega)
    rw [List.take_succ_eq_append_getElem hlt, List.map_append] at next
    simp only [spec_MelodyText.l0]
    rw [if_pos (by omega), mvs_f m (by omega) (k + 1) (by omega), Option.bind_some, h]
    simp only [spec_MelodyText.j1]
    rw [if_pos trivial]
    by_cases hi0 : i = 0
    · subst hi0
      rw [if_neg (by omega), if_pos (by omega), if_pos (by omega), rdt_at m 0 hlt, stt_f htv k (by omega), Option.bind_some, if_pos (by omega), w1 (by omega)]
      have e : mjoin ((m.take 0).map ttx) ++ ttx m[0] = mjoin ((m.take 0).map ttx ++ [m[0]].map ttx) := by
        rw [List.take_zero, List.map_nil, List.nil_append, List.map_cons, List.map_nil, mj_one]
        apply ByteArray.ext
        rw [ByteArray.data_append]
        apply Array.ext'
        simp [mjoin, Lib.join_nil]
      rw [e]
      exact next
    · have hne : (m.take i).map ttx ≠ [] := by
        intro e
        have := congrArg List.length e
        rw [List.length_map, List.length_take, List.length_nil] at this
        omega
      have hz2 : (mjoin ((m.take i).map ttx) ++ (⟨#[32]⟩ : ByteArray)).size = (mjoin ((m.take i).map ttx)).size + 1 := by rw [ByteArray.size_append]; rfl
      have e := mjoin_append ((m.take i).map ttx) [ttx m[i]] hne (by simp)
      rw [mj_one] at e
      rw [if_pos (by omega), if_pos (by omega), if_pos (by omega), if_pos (by omega), rdt_at m i hlt, stt_f htv k (by omega), Option.bind_some, if_pos (by omega), w1 (by omega), ← e]
      exact next
theorem smt_f (m : List S30) (k : Nat) (hb : m.length ≤ 1000) (hk : 2200 ≤ k) : spec_MelodyText.f k m = some (if MV m = true then mjoin (m.map ttx) else ⟨#[]⟩) := by
  unfold spec_MelodyText.f
  by_cases h : MV m = true
  · have hm : m.length ≤ 24 := by
      unfold MV at h
      rw [Bool.and_eq_true, decide_eq_true_eq] at h
      exact h.1
    rw [if_pos h]
    have := smt_l0 m h m.length 0 k (by omega) (by omega)
    rw [List.take_zero, List.map_nil] at this
    exact this
  · rw [if_neg h]
    obtain ⟨k, rfl⟩ : ∃ m, k = m + 2 := ⟨k - 2, by omega⟩
    simp only [spec_MelodyText.l0]
    by_cases h0 : (0 : Int) < (m.length : Int)
    · rw [if_pos h0, mvs_f m (by omega) (k + 1) (by omega), Option.bind_some, Bool.not_eq_true] at *
      rw [h]
      simp only [spec_MelodyText.j1]
      rw [if_neg (by decide)]
    · rw [if_neg h0]
      simp only [spec_MelodyText.j1]
      rw [if_neg (by decide)]
theorem lens_reverse : ∀ xs : List (List UInt8), Lib.lens xs.reverse = Lib.lens xs := fun xs => by
  unfold Lib.lens
  rw [List.map_reverse, List.sum_reverse]
theorem mj_rev (m : List S30) : (mjoin (m.reverse.map ttx)).size = (mjoin (m.map ttx)).size := by
  have key : ∀ xs : List (List UInt8), (Lib.join xs [32]).length = Lib.lens xs + (xs.length - 1) := fun xs => by
    cases xs with
    | nil => rfl
    | cons x r =>
      rw [Lib.join_length, List.length_cons, List.length_cons, List.length_nil]
      omega
  show (Lib.join ((m.reverse.map ttx).map (·.data.toList)) [32]).length = (Lib.join ((m.map ttx).map (·.data.toList)) [32]).length
  rw [key, key, List.map_reverse, List.map_reverse, lens_reverse, List.length_reverse]
theorem mj_names (m : List S30) (h : MV m = true) (h0 : 0 < m.length) (k : Nat) (hk : 200 ≤ k) : ¬ (mjoin (m.map ttx)).toList = [] ∧ laws_names.f k (mjoin (m.map ttx)) = some (m.length : Int) := by
  have ha : m.all tvv = true := by unfold MV at h; rw [Bool.and_eq_true] at h; exact h.2
  have hsz := mjoin_size h
  have hz : ∀ x ∈ (m.map ttx).map (·.data.toList), sp32 x = 0 ∧ x ≠ [] := by
    intro x hx
    obtain ⟨b, hb, rfl⟩ := List.mem_map.1 hx
    obtain ⟨t, ht, rfl⟩ := List.mem_map.1 hb
    obtain ⟨f1, f2⟩ := ttx_facts (List.all_eq_true.1 ha t ht)
    refine ⟨?_, f1⟩
    have : ∀ l : List UInt8, ¬ (32 : UInt8) ∈ l → sp32 l = 0 := by
      intro l
      induction l with
      | nil => intro _; rfl
      | cons b l ih =>
        intro hn
        have hb : ¬ b = 32 := fun e => hn (by rw [e]; exact List.mem_cons_self ..)
        simp only [sp32]
        rw [if_neg hb, ih (fun x => hn (List.mem_cons_of_mem _ x)), Int.zero_add]
    exact this _ f2
  have hd : (mjoin (m.map ttx)).data.toList = Lib.join ((m.map ttx).map (·.data.toList)) [32] := rfl
  have hln : ((m.map ttx).map (·.data.toList)).length = m.length := by rw [List.length_map, List.length_map]
  generalize (m.map ttx).map (·.data.toList) = L at hz hd hln
  have hne : ¬ (mjoin (m.map ttx)).toList = [] := by
    rw [ByteArray.toList_eq, hd]
    cases L with
    | nil => simp at hln; omega
    | cons x r =>
      rw [Lib.join_cons]
      intro e2
      exact (hz x (List.mem_cons_self ..)).2 (List.append_eq_nil_iff.1 e2).1
  refine ⟨hne, ?_⟩
  unfold laws_names.f
  have hn := names_l0 (mjoin (m.map ttx)) (by omega) (mjoin (m.map ttx)).size 0 k 1 (by omega) (by omega) (by omega) (by omega)
  rw [show ((0 : Nat) : Int) = 0 from rfl] at hn
  rw [if_neg hne, hn, List.drop_zero, hd]
  congr 1
  cases L with
  | nil => simp at hln; omega
  | cons x r =>
    rw [Lib.join_cons, sp32_append, sp32_tail _ (fun z hz' => (hz z (List.mem_cons_of_mem _ hz')).1), (hz _ (List.mem_cons_self ..)).1]
    rw [List.length_cons] at hln
    omega
theorem FnMelodyText : ∀ (l0 : List Int), l0.length ≤ maxLen → l0.length * 1 ≤ 140737488351232 → (∀ n ∈ l0, (Lit.int .u8 n).wf = true) → ∃ k, laws_FnMelodyText.f k l0 = some true := by
  intro l0 z1 z2 hw
  refine ⟨2501, ?_⟩
  unfold laws_FnMelodyText.f
  by_cases h : (l0.length : Int) > 1048576
  · rw [if_pos h]
  · rw [if_neg h]
    obtain ⟨o, ho, hR⟩ := open_f l0 (bytes_of hw)
    obtain ⟨m, q, hm, q0, q1, hq⟩ := mel_d o hR 0 10 (by omega) (by omega) (by omega)
    have hd : spec_DrawMelodyText.f 2501 l0 = some m := by
      unfold spec_DrawMelodyText.f
      rw [ho]
      simp only [Option.bind_some]
      have := hq 2501 (by omega)
      rw [show ((10 : Nat) : Int) = 10 from rfl] at this
      rw [this]
      rfl
    rw [hd, Option.bind_some, mti_f m 2501 (by omega), Option.bind_some, smt_f m 2501 (by omega) (by omega), Option.bind_some, if_pos rfl]
    by_cases hM : MV m = true
    · rw [if_pos hM]
      by_cases h0 : m.length = 0
      · obtain rfl : m = [] := List.eq_nil_of_length_eq_zero h0
        simp only [laws_FnMelodyText.j0]
        rw [if_pos (by rw [ByteArray.toList_eq]; rfl), beq_self_eq_true]
      · obtain ⟨n1, n2⟩ := mj_names m hM (by omega) 2500 (by omega)
        have ha : m.all tvv = true := by unfold MV at hM; rw [Bool.and_eq_true] at hM; exact hM.2
        have hsz := mjoin_size hM
        have hsp : splitW (mjoin (m.map ttx)) = m.map ttx := by
          refine splitW_join (m.map ttx) (by intro e; have := congrArg List.length e; rw [List.length_map, List.length_nil] at this; omega) ?_
          intro x hx
          obtain ⟨t, ht, rfl⟩ := List.mem_map.1 hx
          exact (ttx_facts (List.all_eq_true.1 ha t ht)).2
        have hfrom : impl_MelodyFrom.f 2500 (mjoin (m.map ttx)) = some (m, true) := by
          unfold impl_MelodyFrom.f mfRes
          rw [if_pos (by omega), if_neg n1, hsp, mfGo_ttx m [] ha (by simp; omega)]
          rfl
        have hrev : MV m.reverse = true := by rw [MV_reverse, hM]
        simp only [laws_FnMelodyText.j0]
        rw [beq_false_of_ne n1, if_neg (by decide), hfrom, Option.bind_some, back_f m 2500 (by omega), if_pos hM, Option.bind_some, if_pos rfl, if_pos rfl, sameT_f m 2500 (by omega) (by omega), Option.bind_some, if_pos rfl, n2, Option.bind_some, if_pos rfl, mti_f m.reverse 2500 (by omega), if_pos hrev, Option.bind_some, mj_rev, beq_self_eq_true]
    · rw [if_neg hM]
      simp only [laws_FnMelodyText.j0]
      rw [if_pos (by rw [ByteArray.toList_eq]; rfl), beq_self_eq_true]

end Go.Proofs.YtcndojoghmblaaaDoor.PureFnMelodyText
