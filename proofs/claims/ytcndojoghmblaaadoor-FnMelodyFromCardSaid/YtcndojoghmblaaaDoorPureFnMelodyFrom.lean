/- FnMelodyFrom: for every list of at most 1048576 bytes, the law of MelodyFrom holds of what the reference draws from it, and the list reads as before (longer lists the statement lets pass). The table letterNames is tied to the program's text; of the library's own variable internal/bytealg.MaxLen the world's shape alone is used. No condition beyond the statement's own. -/
import Derived.Test.YtcndojoghmblaaaDoorMRx0
import Derived.Test.YtcndojoghmblaaaDoorMRx3
import Derived.Test.YtcndojoghmblaaaDoorMRx2
import Derived.Test.YtcndojoghmblaaaDoorMRx4
import Derived.Test.YtcndojoghmblaaaDoorMRx5
import Derived.Test.YtcndojoghmblaaaDoorMRx6
import Derived.Laws.Bits64
namespace Go.Proofs.YtcndojoghmblaaaDoor.PureFnMelodyFrom
open Go.RowKit Go.Proofs.YtcndojoghmblaaaDoor.MR Go.Proofs.YtcndojoghmblaaaDoorW.PrintWords Go.Proofs.YtcndojoghmblaaaDoorW.PrintLast Go.Proofs.YtcndojoghmblaaaDoorW.PrintMore 
set_option linter.unusedVariables false
set_option linter.unusedSimpArgs false
theorem w1 {i : Nat} (h : i < 4611686018427387904) : wrap64 ((i : Int) + 1) = ((i + 1 : Nat) : Int) := by
  unfold wrap64
  omega
theorem w0 {i : Int} (h : -9223372036854775808 ≤ i) (h' : i ≤ 9223372036854775807) : wrap64 i = i := by
  unfold wrap64
  omega
theorem rd_at (xs : List Int) (i : Nat) (h : i < xs.length) : rd xs (i : Int) = xs[i] := by
  simp [rd, List.getD_eq_getElem?_getD, h]
/-- A tone of the gamut. -/
def tv (a : Int) (b : Bool) : Bool := decide (0 ≤ a) && (decide (a ≤ 20) && (!b || decide (Int.tmod a 7 = 2)))
theorem tv_spec (a : Int) (b : Bool) : spec_ToneValid.f a b = some (tv a b) := by
  unfold spec_ToneValid.f spec_l6In.f spec_l1Letter.f tv
  by_cases h0 : a ≥ 0
  · rw [if_pos h0, decide_eq_true (show 0 ≤ a from h0)]
    by_cases h1 : a ≤ 20
    · simp only [h1, decide_true, Option.bind_some, if_true, Bool.true_and]
      cases b
      · rfl
      · simp
        rfl
    · simp [h1]
  · rw [if_neg h0, decide_eq_false (show ¬ 0 ≤ a from h0)]
    rfl
theorem tv_impl (a : Int) (b : Bool) : impl_Tone_valid.f a b = some (tv a b) := by
  unfold impl_Tone_valid.f tv
  by_cases h0 : a ≥ 0
  · rw [if_pos h0, decide_eq_true (show 0 ≤ a from h0)]
    by_cases h1 : a ≤ 20
    · rw [if_pos h1, decide_eq_true h1]
      cases b
      · rfl
      · simp
        rfl
    · rw [if_neg h1, decide_eq_false h1]
      rfl
  · rw [if_neg h0, decide_eq_false (show ¬ 0 ≤ a from h0)]
    rfl
theorem in_spec (a b c : Int) : spec_l6In.f a b c = some (decide (b ≤ a) && decide (a ≤ c)) := by
  unfold spec_l6In.f
  by_cases h0 : a ≥ b
  · rw [if_pos h0, decide_eq_true (show b ≤ a from h0)]; rfl
  · rw [if_neg h0, decide_eq_false (show ¬ b ≤ a from h0)]; rfl
def tvv (t : S30) : Bool := tv t.f0 t.f1
theorem rdt_at (xs : List S30) (i : Nat) (h : i < xs.length) : rd_T30 xs (i : Int) = xs[i] := by
  simp [rd_T30, List.getD_eq_getElem?_getD, h]
def MV (l : List S30) : Bool := decide (l.length ≤ 24) && l.all tvv
theorem mvs_l0 (l : List S30) (hb : l.length < 4611686018427387904) : ∀ (d i k : Nat), i + d = l.length → d < k → (l.take i).all tvv = true → spec_MelodyValid.l0 k l (i : Int) = some (MV l) := by
  intro d
  induction d with
  | zero =>
    intro i k hi hk hv
    obtain ⟨k, rfl⟩ : ∃ m, k = m + 1 := ⟨k - 1, by omega⟩
    rw [List.take_of_length_le (by omega)] at hv
    simp only [spec_MelodyValid.l0]
    rw [if_neg (by omega)]
    unfold MV
    rw [hv, Bool.and_true]
    congr 1
    rw [decide_eq_decide]
    omega
  | succ d ih =>
    intro i k hi hk hv
    obtain ⟨k, rfl⟩ : ∃ m, k = m + 1 := ⟨k - 1, by omega⟩
    have hx : i < l.length := by omega
    simp only [spec_MelodyValid.l0]
    rw [if_pos (by omega), if_pos (by omega), rdt_at l i hx, tv_spec]
    simp only [Option.bind_some]
    by_cases hvi : tv l[i].f0 l[i].f1 = true
    · rw [if_pos hvi, w1 (by omega)]
      refine ih (i + 1) k (by omega) (by omega) ?_
      rw [List.take_succ_eq_append_getElem hx, List.all_append, hv]
      simp [tvv, hvi]
    · rw [if_neg hvi]
      have : l.all tvv = false := by
        rw [Bool.eq_false_iff]
        intro h
        exact hvi (List.all_eq_true.1 h _ (List.getElem_mem hx))
      unfold MV
      rw [this, Bool.and_false]
theorem mvs_f (l : List S30) (hb : l.length ≤ 1048576) (k : Nat) (hk : l.length < k) : spec_MelodyValid.f k l = some (MV l) := by
  unfold spec_MelodyValid.f
  simpa using mvs_l0 l (by omega) l.length 0 k (by omega) (by omega) (by simp)
theorem mvi_l0 (l : List S30) (hb : l.length < 4611686018427387904) : ∀ (d i k : Nat), i + d = l.length → d < k → impl_MelodyValid.l0 k l (l.length : Int) (i : Int) = some ((l.drop i).all tvv) := by
  intro d
  induction d with
  | zero =>
    intro i k hi hk
    obtain ⟨k, rfl⟩ : ∃ m, k = m + 1 := ⟨k - 1, by omega⟩
    simp only [impl_MelodyValid.l0]
    rw [if_neg (by omega), List.drop_eq_nil_of_le (by omega)]
    rfl
  | succ d ih =>
    intro i k hi hk
    obtain ⟨k, rfl⟩ : ∃ m, k = m + 1 := ⟨k - 1, by omega⟩
    have hx : i < l.length := by omega
    simp only [impl_MelodyValid.l0]
    rw [if_pos (by omega), if_pos (by omega), if_pos (by omega), rdt_at l i hx, tv_impl, List.drop_eq_getElem_cons hx, List.all_cons]
    simp only [Option.bind_some]
    by_cases ht : tv l[i].f0 l[i].f1 = true
    · rw [if_pos ht, w1 (by omega), ih (i + 1) k (by omega) (by omega), show tvv l[i] = true from ht, Bool.true_and]
    · rw [if_neg ht, show tvv l[i] = false from Bool.eq_false_iff.mpr ht, Bool.false_and]
theorem mvi_f (l : List S30) (k : Nat) (hk : 25 ≤ k) : impl_MelodyValid.f k l = some (MV l) := by
  unfold impl_MelodyValid.f MV
  by_cases h : l.length ≤ 24
  · rw [if_neg (by omega), decide_eq_true h, Bool.true_and]
    simpa using mvi_l0 l (by omega) l.length 0 k (by omega) (by omega)
  · rw [if_pos (by omega), decide_eq_false h, Bool.false_and]

theorem mjoin_append (xs ys : List ByteArray) (hx : xs ≠ []) (hy : ys ≠ []) : mjoin (xs ++ ys) = mjoin xs ++ ⟨#[32]⟩ ++ mjoin ys := by
  cases xs with
  | nil => exact absurd rfl hx
  | cons x r =>
    cases ys with
    | nil => exact absurd rfl hy
    | cons y s =>
      apply ByteArray.ext
      rw [ByteArray.data_append, ByteArray.data_append]
      apply Array.ext'
      unfold mjoin
      simp [Lib.join_cons, Lib.joinTail, List.append_assoc]
theorem mti_f (l : List S30) (k : Nat) (hk : 25 ≤ k) : impl_MelodyText.f k l = some (if MV l = true then mjoin (l.map ttx) else ⟨#[]⟩) := by
  unfold impl_MelodyText.f
  rw [mvi_f l k hk, Option.bind_some]
theorem mjoin_size {l : List S30} (h : MV l = true) : (mjoin (l.map ttx)).size ≤ 96 := by
  have h1 := mvi_f l 25 (by omega)
  rw [h] at h1
  obtain ⟨h2, h3⟩ := mv_facts h1
  have := mt_small l h3
  show (Lib.join ((l.map ttx).map (·.data.toList)) [32]).length ≤ 96
  omega
theorem tv_bd {a : Int} {b : Bool} (h : tv a b = true) : 0 ≤ a ∧ a ≤ 20 := by
  unfold tv at h
  simp only [Bool.and_eq_true, decide_eq_true_eq] at h
  exact ⟨h.1, h.2.1⟩
def tfOk' (s : ByteArray) (m : Nat) (b : Bool) : Bool := (impl_Tone_valid.f (m : Int) b == some true) && (((impl_Tone_text.f (m : Int) b).getD ⟨#[]⟩).data.toList == s.data.toList)
def tfGo' (s : ByteArray) : Nat → Nat → S30 × Bool
  | 0, _ => (⟨0, false⟩, false)
  | d + 1, m => if tfOk' s m false = true then (⟨(m : Int), false⟩, true) else if tfOk' s m true = true then (⟨(m : Int), true⟩, true) else tfGo' s d (m + 1)
theorem tfOk_eq (s : ByteArray) (m : Nat) (b : Bool) : tfOk s m b = tfOk' s m b := by
  unfold tfOk tfOk'
  rw [ByteArray.toList_eq, ByteArray.toList_eq]
theorem tfGo_eq (s : ByteArray) : ∀ d m, tfGo s d m = tfGo' s d m
  | 0, _ => rfl
  | d + 1, m => by
    simp only [tfGo, tfGo']
    rw [tfOk_eq, tfOk_eq, tfGo_eq s d (m + 1)]
theorem tf_dec : ∀ m, m < 21 → ∀ b : Bool, tv ((m : Nat) : Int) b = true → (tfGo' ((impl_Tone_text.f (m : Int) b).getD ⟨#[]⟩) 21 0).1.f0 = (m : Int) ∧ (tfGo' ((impl_Tone_text.f (m : Int) b).getD ⟨#[]⟩) 21 0).1.f1 = b ∧ (tfGo' ((impl_Tone_text.f (m : Int) b).getD ⟨#[]⟩) 21 0).2 = true := by decide +kernel
theorem tf_ttx {t : S30} (h : tvv t = true) : tfGo (ttx t) 21 0 = (t, true) := by
  obtain ⟨a, b⟩ := t
  have hb := tv_bd (show tv a b = true from h)
  obtain ⟨m, rfl⟩ := Int.eq_ofNat_of_zero_le hb.1
  obtain ⟨h1, h2, h3⟩ := tf_dec m (by omega) b h
  rw [tfGo_eq]
  show tfGo' ((impl_Tone_text.f (m : Int) b).getD ⟨#[]⟩) 21 0 = _
  generalize tfGo' ((impl_Tone_text.f (m : Int) b).getD ⟨#[]⟩) 21 0 = P at h1 h2 h3 ⊢
  obtain ⟨⟨x, y⟩, z⟩ := P
  have g1 : x = (m : Int) := h1
  have g2 : y = b := h2
  have g3 : z = true := h3
  rw [g1, g2, g3]
theorem ttx_all : ∀ m, m < 21 → ∀ b : Bool, ((impl_Tone_text.f ((m : Nat) : Int) b).getD ⟨#[]⟩).data.toList ≠ [] ∧ ¬ (32 : UInt8) ∈ ((impl_Tone_text.f ((m : Nat) : Int) b).getD ⟨#[]⟩).data.toList := by decide +kernel
theorem ttx_facts {t : S30} (h : tvv t = true) : (ttx t).data.toList ≠ [] ∧ ¬ (32 : UInt8) ∈ (ttx t).data.toList := by
  obtain ⟨a, b⟩ := t
  have hb := tv_bd (show tv a b = true from h)
  obtain ⟨m, rfl⟩ := Int.eq_ofNat_of_zero_le hb.1
  exact ttx_all m (by omega) b
theorem idx_miss : ∀ l : List UInt8, ¬ (32 : UInt8) ∈ l → Lib.index l [32] = -1
  | [], _ => rfl
  | b :: l, h => by
    have ih := idx_miss l (fun x => h (List.mem_cons_of_mem _ x))
    have hb : (32 : UInt8) ≠ b := fun e => h (by rw [e]; exact List.mem_cons_self ..)
    unfold Lib.index
    rw [if_neg (by simpa [List.isPrefixOf] using hb), ih]
    rfl
theorem idx_hit : ∀ (l r : List UInt8), ¬ (32 : UInt8) ∈ l → Lib.index (l ++ 32 :: r) [32] = (l.length : Int)
  | [], r, _ => by
    show Lib.index (32 :: r) [32] = 0
    unfold Lib.index
    rw [if_pos (by simp [List.isPrefixOf])]
  | b :: l, r, h => by
    have ih := idx_hit l r (fun x => h (List.mem_cons_of_mem _ x))
    have hb : (32 : UInt8) ≠ b := fun e => h (by rw [e]; exact List.mem_cons_self ..)
    rw [List.cons_append]
    unfold Lib.index
    rw [if_neg (by simpa [List.isPrefixOf] using hb), ih, if_neg (by simp), List.length_cons]
    omega
theorem split_join : ∀ xs : List (List UInt8), xs ≠ [] → (∀ x ∈ xs, ¬ (32 : UInt8) ∈ x) → Lib.splitK [32] 0 (Lib.count (Lib.join xs [32]) [32]) (Lib.join xs [32]) = xs
  | [], h, _ => absurd rfl h
  | [x], _, h => by
    rw [Lib.join_one]
    have hx := idx_miss x (h x (List.mem_singleton.2 rfl))
    cases Lib.count x [32] with
    | zero => rfl
    | succ k =>
      unfold Lib.splitK
      rw [hx, if_pos (by rfl)]
  | x :: y :: r, _, h => by
    have ih := split_join (y :: r) (by simp) (fun z hz => h z (List.mem_cons_of_mem _ hz))
    have hx := h x (List.mem_cons_self ..)
    have e : Lib.join (x :: y :: r) [32] = x ++ 32 :: Lib.join (y :: r) [32] := by
      rw [Lib.join_cons, Lib.join_cons]
      simp [Lib.joinTail]
    rw [e]
    have hi := idx_hit x (Lib.join (y :: r) [32]) hx
    have hc := Lib.count_hit (s := x ++ 32 :: Lib.join (y :: r) [32]) (sub := [32]) (by simp) hi
    have hd : (x ++ 32 :: Lib.join (y :: r) [32]).drop (x.length + 1) = Lib.join (y :: r) [32] := by
      rw [List.drop_append, List.drop_eq_nil_of_le (by omega), List.nil_append, show x.length + 1 - x.length = 1 by omega]
      rfl
    rw [show x.length + [(32 : UInt8)].length = x.length + 1 from rfl, hd] at hc
    rw [hc, Nat.add_comm]
    unfold Lib.splitK
    rw [hi, if_neg (by simp)]
    have e2 : ((x.length : Nat) : Int).toNat = x.length := Int.toNat_natCast _
    rw [e2, show x.length + [(32 : UInt8)].length = x.length + 1 from rfl, hd, ih, Nat.add_zero, List.take_append_of_le_length (Nat.le_refl _), List.take_length]
theorem map_data_inj : ∀ a b : List ByteArray, a.map (·.data.toList) = b.map (·.data.toList) → a = b
  | [], [], _ => rfl
  | [], y :: b, h => by simp at h
  | x :: a, [], h => by simp at h
  | x :: a, y :: b, h => by
    rw [List.map_cons, List.map_cons] at h
    obtain ⟨h1, h2⟩ := List.cons.inj h
    rw [map_data_inj a b h2]
    congr 1
    apply ByteArray.ext
    exact Array.ext' h1
theorem splitW_join (ws : List ByteArray) (h0 : ws ≠ []) (h : ∀ x ∈ ws, ¬ (32 : UInt8) ∈ x.data.toList) : splitW (mjoin ws) = ws := by
  apply map_data_inj
  unfold splitW
  rw [Lib.splitB_data]
  refine split_join (ws.map (·.data.toList)) (by simpa using h0) ?_
  intro x hx
  obtain ⟨b, hb, rfl⟩ := List.mem_map.1 hx
  exact h b hb
theorem mfGo_ttx : ∀ (l acc : List S30), l.all tvv = true → acc.length + l.length ≤ 24 → mfGo (l.map ttx) acc = some (acc ++ l)
  | [], acc, _, _ => by simp [mfGo]
  | t :: l, acc, h, hl => by
    rw [List.all_cons, Bool.and_eq_true] at h
    rw [List.length_cons] at hl
    rw [List.map_cons]
    simp only [mfGo]
    rw [tf_ttx h.1, if_neg (by simp), if_neg (by omega), mfGo_ttx l _ h.2 (by rw [List.length_append]; simp; omega), List.append_assoc]
    rfl
theorem stt_all : ∀ m, m < 21 → ∀ b : Bool, tv ((m : Nat) : Int) b = true → (spec_ToneText.f 3 (m : Int) b).map (·.data) = some ((impl_Tone_text.f (m : Int) b).getD ⟨#[]⟩).data := by decide +kernel
theorem mono_up {α : Type} {f : Nat → Option α} (h : ∀ j, LeO (f j) (f (j + 1))) {j : Nat} : ∀ (k : Nat) (r : α), f j = some r → f (j + k) = some r
  | 0, _, e => e
  | k + 1, r, e => h (j + k) r (mono_up h k r e)
theorem stt_f {t : S30} (h : tvv t = true) (k : Nat) (hk : 3 ≤ k) : spec_ToneText.f k t.f0 t.f1 = some (ttx t) := by
  obtain ⟨a, b⟩ := t
  have hb := tv_bd (show tv a b = true from h)
  obtain ⟨m, rfl⟩ := Int.eq_ofNat_of_zero_le hb.1
  have e := stt_all m (by omega) b h
  cases hs : spec_ToneText.f 3 (m : Int) b with
  | none => rw [hs] at e; simp at e
  | some v =>
    rw [hs] at e
    have e2 : v = ttx ⟨(m : Int), b⟩ := ByteArray.ext (Option.some.inj e)
    have := mono_up (f := fun k => spec_ToneText.f k (m : Int) b) (fun j => spec_ToneText.mono _ _ j) (k - 3) v hs
    rw [show 3 + (k - 3) = k by omega] at this
    rw [← e2]
    exact this
theorem mj_one (b : ByteArray) : mjoin [b] = b := by
  unfold mjoin
  rw [List.map_cons, List.map_nil, Lib.join_one]
theorem smt_l0 (m : List S30) (h : MV m = true) : ∀ (d i k : Nat), i + d = m.length → 2 * d + 40 < k → spec_MelodyText.l0 k m (mjoin ((m.take i).map ttx)) (i : Int) = some (mjoin (m.map ttx)) := by
  have hv := mvi_f m 25 (by omega)
  rw [h] at hv
  obtain ⟨hm, hf⟩ := mv_facts hv
  have ha : m.all tvv = true := by unfold MV at h; rw [Bool.and_eq_true] at h; exact h.2
  intro d
  induction d with
  | zero =>
    intro i k hi hk
    obtain ⟨k, rfl⟩ : ∃ m, k = m + 2 := ⟨k - 2, by omega⟩
    simp only [spec_MelodyText.l0]
    rw [if_neg (by omega)]
    simp only [spec_MelodyText.j1]
    rw [if_neg (by decide), List.take_of_length_le (by omega)]
  | succ d ih =>
    intro i k hi hk
    obtain ⟨k, rfl⟩ : ∃ m, k = m + 2 := ⟨k - 2, by omega⟩
    have hlt : i < m.length := by omega
    have hs := mt_small (m.take i) (fun t ht => hf t (List.mem_of_mem_take ht))
    rw [List.length_take] at hs
    have hsz : (mjoin ((m.take i).map ttx)).size ≤ 96 := by
      show (Lib.join (((m.take i).map ttx).map (·.data.toList)) [32]).length ≤ 96
      omega
    have htv : tvv m[i] = true := List.all_eq_true.1 ha _ (List.getElem_mem hlt)
    have ht3 : (ttx m[i]).size ≤ 3 := (text_some (hf _ (List.getElem_mem hlt)).1 (hf _ (List.getElem_mem hlt)).2).2
    have next := ih (i + 1) k (by omega) (by omega)
    rw [List.take_succ_eq_append_getElem hlt, List.map_append] at next
    simp only [spec_MelodyText.l0]
    rw [if_pos (by omega), mvs_f m (by omega) (k + 1) (by omega), Option.bind_some, h]
    simp only [spec_MelodyText.j1]
    rw [if_pos trivial]
    by_cases hi0 : i = 0
    · subst hi0
      rw [if_neg (by omega), if_pos (by omega), if_pos (by omega), rdt_at m 0 hlt, stt_f htv k (by omega), Option.bind_some, if_pos (by omega), w1 (by omega)]
      have e : mjoin ((m.take 0).map ttx) ++ ttx m[0] = mjoin ((m.take 0).map ttx ++ [m[0]].map ttx) := by
        rw [List.take_zero, List.map_nil, List.nil_append, List.map_cons, List.map_nil, mj_one]
        apply ByteArray.ext
        rw [ByteArray.data_append]
        apply Array.ext'
        simp [mjoin, Lib.join_nil]
      rw [e]
      exact next
    · have hne : (m.take i).map ttx ≠ [] := by
        intro e
        have := congrArg List.length e
        rw [List.length_map, List.length_take, List.length_nil] at this
        omega
      have hz2 : (mjoin ((m.take i).map ttx) ++ (⟨#[32]⟩ : ByteArray)).size = (mjoin ((m.take i).map ttx)).size + 1 := by rw [ByteArray.size_append]; rfl
      have e := mjoin_append ((m.take i).map ttx) [ttx m[i]] hne (by simp)
      rw [mj_one] at e
      rw [if_pos (by omega), if_pos (by omega), if_pos (by omega), if_pos (by omega), rdt_at m i hlt, stt_f htv k (by omega), Option.bind_some, if_pos (by omega), w1 (by omega), ← e]
      exact next
theorem smt_f (m : List S30) (k : Nat) (hb : m.length ≤ 1000) (hk : 2200 ≤ k) : spec_MelodyText.f k m = some (if MV m = true then mjoin (m.map ttx) else ⟨#[]⟩) := by
  unfold spec_MelodyText.f
  by_cases h : MV m = true
  · have hm : m.length ≤ 24 := by
      unfold MV at h
      rw [Bool.and_eq_true, decide_eq_true_eq] at h
      exact h.1
    rw [if_pos h]
    have := smt_l0 m h m.length 0 k (by omega) (by omega)
    rw [List.take_zero, List.map_nil] at this
    exact this
  · rw [if_neg h]
    obtain ⟨k, rfl⟩ : ∃ m, k = m + 2 := ⟨k - 2, by omega⟩
    simp only [spec_MelodyText.l0]
    by_cases h0 : (0 : Int) < (m.length : Int)
    · rw [if_pos h0, mvs_f m (by omega) (k + 1) (by omega), Option.bind_some, Bool.not_eq_true] at *
      rw [h]
      simp only [spec_MelodyText.j1]
      rw [if_neg (by decide)]
    · rw [if_neg h0]
      simp only [spec_MelodyText.j1]
      rw [if_neg (by decide)]
def sp : List UInt8 → List (List UInt8)
  | [] => [[]]
  | b :: t => if b = 32 then [] :: sp t else match sp t with | h :: r => (b :: h) :: r | [] => [[b]]
theorem sp_ne : ∀ l, sp l ≠ []
  | [] => by simp [sp]
  | b :: t => by
    unfold sp
    split
    · simp
    · split <;> simp
theorem sp_no32 : ∀ l, ∀ x ∈ sp l, ¬ (32 : UInt8) ∈ x
  | [], x, hx => by
    simp [sp] at hx
    rw [hx]
    exact List.not_mem_nil
  | b :: t, x, hx => by
    have ih := sp_no32 t
    unfold sp at hx
    by_cases hb : b = 32
    · rw [if_pos hb] at hx
      rcases List.mem_cons.1 hx with rfl | hx
      · exact List.not_mem_nil
      · exact ih x hx
    · rw [if_neg hb] at hx
      cases e : sp t with
      | nil => exact absurd e (sp_ne t)
      | cons h r =>
        rw [e] at hx ih
        rcases List.mem_cons.1 hx with rfl | hx
        · intro hm
          rcases List.mem_cons.1 hm with hm | hm
          · exact hb hm.symm
          · exact ih h (List.mem_cons_self ..) hm
        · exact ih x (List.mem_cons_of_mem _ hx)
theorem sp_join : ∀ l, Lib.join (sp l) [32] = l
  | [] => by simp [sp, Lib.join_one]
  | b :: t => by
    have ih := sp_join t
    unfold sp
    cases e : sp t with
    | nil => exact absurd e (sp_ne t)
    | cons h r =>
      rw [e, Lib.join_cons] at ih
      by_cases hb : b = 32
      · rw [if_pos hb, Lib.join_cons, hb]
        unfold Lib.joinTail at ih ⊢
        rw [List.map_cons, List.flatten_cons, List.nil_append, List.append_assoc, ih]
        rfl
      · rw [if_neg hb]
        simp only
        rw [Lib.join_cons, List.cons_append, ih]
theorem split_sp (l : List UInt8) : Lib.splitK [32] 0 (Lib.count l [32]) l = sp l := by
  have := split_join (sp l) (sp_ne l) (sp_no32 l)
  rw [sp_join] at this
  exact this
theorem splitW_sp (s : ByteArray) : (splitW s).map (·.data.toList) = sp s.data.toList := by
  unfold splitW
  rw [Lib.splitB_data]
  exact split_sp s.data.toList
theorem sp_snoc : ∀ l, sp (l ++ [32]) = sp l ++ [[]]
  | [] => by simp [sp]
  | b :: t => by
    have ih := sp_snoc t
    rw [List.cons_append]
    unfold sp
    by_cases hb : b = 32
    · rw [if_pos hb, if_pos hb, ih, List.cons_append]
    · rw [if_neg hb, if_neg hb, ih]
      cases e : sp t with
      | nil => exact absurd e (sp_ne t)
      | cons h r => rfl
def pref (p : List UInt8) : List (List UInt8) → List (List UInt8)
  | h :: r => (p ++ h) :: r
  | [] => [p]
theorem ext_list (s : ByteArray) (a b : Nat) : (s.extract a b).data.toList = (s.data.toList.drop a).take (b - a) := by
  rw [ByteArray.data_extract, Array.toList_extract, List.extract_eq_take_drop]
theorem cut_l0 (s : ByteArray) (hb : s.size ≤ 1000) : ∀ (d i a k : Nat) (out : List ByteArray), i + d = s.size → a ≤ i → d + 1 < k → out.length ≤ i → ∃ ws, spec_l2Cut.l0 k s 32 out (a : Int) (i : Int) = some (out ++ ws) ∧ ws.map (·.data.toList) = pref ((s.data.toList.drop a).take (i - a)) (sp (s.data.toList.drop i)) := by
  intro d
  induction d with
  | zero =>
    intro i a k out hi ha hk ho
    obtain ⟨k, rfl⟩ : ∃ m, k = m + 1 := ⟨k - 1, by omega⟩
    refine ⟨[s.extract a s.size], ?_, ?_⟩
    · simp only [spec_l2Cut.l0]
      rw [if_neg (by omega), if_pos (by omega), if_pos (by omega), if_pos (by omega), Int.toNat_natCast]
    · rw [List.map_cons, List.map_nil, ext_list, show s.data.toList.drop i = [] from List.drop_eq_nil_of_le (by show s.size ≤ i; omega), show i = s.size by omega]
      simp [sp, pref]
  | succ d ih =>
    intro i a k out hi ha hk ho
    obtain ⟨k, rfl⟩ : ∃ m, k = m + 1 := ⟨k - 1, by omega⟩
    have hlt : i < s.size := by omega
    have hl : i < s.data.toList.length := hlt
    have hbt : bt s (i : Int) = ((s.data.toList[i]).toNat : Int) := by
      unfold bt
      rw [dif_pos (by rw [Int.toNat_natCast]; exact hlt)]
      rfl
    simp only [spec_l2Cut.l0]
    rw [if_pos (by omega), if_pos (by omega), hbt, w1 (by omega), List.drop_eq_getElem_cons hl]
    by_cases h : s.data.toList[i] = 32
    · obtain ⟨ws, e1, e2⟩ := ih (i + 1) (i + 1) k (out ++ [s.extract a i]) (by omega) (Nat.le_refl _) (by omega) (by rw [List.length_append]; simp; omega)
      rw [h, if_pos (by rfl), if_pos (by omega), if_pos (by omega), if_pos (by omega), if_pos (by omega), Int.toNat_natCast, Int.toNat_natCast, e1]
      refine ⟨s.extract a i :: ws, by rw [List.append_assoc]; rfl, ?_⟩
      rw [List.map_cons, e2, ext_list]
      have e3 : sp (32 :: s.data.toList.drop (i + 1)) = [] :: sp (s.data.toList.drop (i + 1)) := by rw [sp, if_pos rfl]
      rw [e3, Nat.sub_self, List.take_zero]
      cases e : sp (s.data.toList.drop (i + 1)) with
      | nil => exact absurd e (sp_ne _)
      | cons x r => simp [pref]
    · obtain ⟨ws, e1, e2⟩ := ih (i + 1) a k out (by omega) (by omega) (by omega) (by omega)
      have hn : ¬ ((s.data.toList[i].toNat : Nat) : Int) = 32 := by
        intro e
        apply h
        apply UInt8.toNat_inj.1
        show s.data.toList[i].toNat = 32
        omega
      rw [if_neg hn, e1]
      refine ⟨ws, rfl, ?_⟩
      rw [e2]
      have e3 : (s.data.toList.drop a).take (i + 1 - a) = (s.data.toList.drop a).take (i - a) ++ [s.data.toList[i]] := by
        have hq : i - a < (s.data.toList.drop a).length := by rw [List.length_drop]; omega
        rw [show i + 1 - a = (i - a) + 1 by omega, List.take_succ_eq_append_getElem hq, List.getElem_drop]
        simp only [show a + (i - a) = i by omega]
      rw [e3]
      generalize s.data.toList[i] = b at h
      rw [sp, if_neg h]
      cases e : sp (s.data.toList.drop (i + 1)) with
      | nil => exact absurd e (sp_ne _)
      | cons x r => simp [pref]
theorem cut_f (s : ByteArray) (hb : s.size ≤ 1000) (k : Nat) (hk : 1100 ≤ k) : spec_l2Cut.f k s 32 = some (splitW s) := by
  unfold spec_l2Cut.f
  obtain ⟨ws, e1, e2⟩ := cut_l0 s hb s.size 0 0 k [] (by omega) (Nat.le_refl _) (by omega) (by simp)
  rw [show ((0 : Nat) : Int) = 0 from rfl] at e1
  rw [e1, List.nil_append]
  congr 1
  apply map_data_inj
  rw [e2, splitW_sp, List.drop_zero]
  cases e : sp s.data.toList with
  | nil => exact absurd e (sp_ne _)
  | cons x r => simp [pref]
theorem rdt_at' (xs : List S30) (i : Nat) (h : i < xs.length) : rd_T30 xs (i : Int) = xs[i] := by
  simp [rd_T30, List.getD_eq_getElem?_getD, h]
theorem sameT_l0 (xs : List S30) (hb : xs.length ≤ 1048576) : ∀ (d i k : Nat), i + d = xs.length → d < k → laws_sameTones.l0 k xs xs (i : Int) = some true := by
  intro d
  induction d with
  | zero =>
    intro i k hi hk
    obtain ⟨k, rfl⟩ : ∃ m, k = m + 1 := ⟨k - 1, by omega⟩
    simp only [laws_sameTones.l0]
    rw [if_neg (by omega)]
  | succ d ih =>
    intro i k hi hk
    obtain ⟨k, rfl⟩ : ∃ m, k = m + 1 := ⟨k - 1, by omega⟩
    simp only [laws_sameTones.l0]
    rw [if_pos (by omega), if_pos (by omega), if_pos (by omega), if_neg (by simp), w1 (by omega)]
    exact ih (i + 1) k (by omega) (by omega)
theorem sameT_f (xs : List S30) (k : Nat) (hb : xs.length ≤ 1048576) (hk : xs.length < k) : laws_sameTones.f k xs xs = some true := by
  unfold laws_sameTones.f
  rw [if_pos rfl]
  simpa using sameT_l0 xs hb xs.length 0 k (by omega) hk
theorem xor_nn (a b : Int) (ha : 0 ≤ a) (ha' : a < 4611686018427387904) (hb : 0 ≤ b) (hb' : b < 4611686018427387904) : 0 ≤ Go.bits .xor .i64 a b := by
  obtain ⟨x, rfl⟩ := Int.eq_ofNat_of_zero_le ha
  obtain ⟨y, rfl⟩ := Int.eq_ofNat_of_zero_le hb
  have hx : x ^^^ y < 2 ^ 62 := Nat.xor_lt_two_pow (by omega) (by omega)
  have h1 : (BitVec.ofInt 64 (x : Int)).toNat = x := by
    rw [BitVec.ofInt_natCast, BitVec.toNat_ofNat]; exact Nat.mod_eq_of_lt (by omega)
  have h2 : (BitVec.ofInt 64 (y : Int)).toNat = y := by
    rw [BitVec.ofInt_natCast, BitVec.toNat_ofNat]; exact Nat.mod_eq_of_lt (by omega)
  have e : Go.bits .xor .i64 (x : Int) (y : Int) = IntKind.i64.wrap (((x ^^^ y : Nat)) : Int) := by
    show IntKind.i64.wrap ((BitVec.ofInt 64 (x : Int) ^^^ BitVec.ofInt 64 (y : Int)).toNat : Int) = _
    rw [BitVec.toNat_xor, h1, h2]
  rw [e, IntWalk.i64_in _ (by omega)]
  omega
/-- A list of bytes. -/
def Bytes (l : List Int) : Prop := ∀ n ∈ l, 0 ≤ n ∧ n ≤ 255
theorem rd_byte {l : List Int} (h : Bytes l) (i : Int) (h0 : 0 ≤ i) (h1 : i < (l.length : Int)) : 0 ≤ rd l i ∧ rd l i ≤ 255 := by
  obtain ⟨n, rfl⟩ := Int.eq_ofNat_of_zero_le h0
  have hn : n < l.length := by omega
  rw [rd_at l n hn]
  exact h _ (List.getElem_mem hn)
theorem tm_bd (a n : Int) (ha : 0 ≤ a) (hn : 0 < n) : 0 ≤ Int.tmod a n ∧ Int.tmod a n < n := by
  rw [Int.tmod_eq_emod_of_nonneg ha]
  exact ⟨Int.emod_nonneg _ (by omega), Int.emod_lt_of_pos _ hn⟩
theorem td_bd (a n : Int) (ha : 0 ≤ a) (hn : 0 < n) : 0 ≤ Int.tdiv a n ∧ Int.tdiv a n ≤ a := by
  rw [Int.tdiv_eq_ediv_of_nonneg ha]
  exact ⟨Int.ediv_nonneg ha (by omega), Int.ediv_le_self _ ha⟩
theorem pick_some (l : List Int) (hl : Bytes l) (hn : l.length ≤ 2000) (p n : Int) (hp : 0 ≤ p) (hp' : p ≤ 1000000) (h1 : 1 ≤ n) (h2 : n ≤ 1000000) :
    ∃ v, 0 ≤ v ∧ v < n ∧ ∀ k, spec_l6Rd_pick.f (k + 1) l p n = some (v, p + 1) := by
  unfold spec_l6Rd_pick.f
  simp only [spec_l6Rd_pick.j0]
  rw [if_neg (show ¬ n < 1 by omega), w0 (i := p + 1) (by omega) (by omega), show p + 1 - 1 = p by omega, w0 (i := p) (by omega) (by omega)]
  by_cases hl0 : l.length = 0
  · refine ⟨0, by omega, by omega, fun k => ?_⟩
    rw [if_pos (show ((l.length : Int) == 0) = true by rw [hl0]; rfl)]
  · rw [if_neg (show ¬ (((l.length : Int) == 0) = true) from fun h => hl0 (by have := beq_iff_eq.1 h; omega))]
    have hlp : (0 : Int) < (l.length : Int) := by omega
    by_cases hpl : p < (l.length : Int)
    · obtain ⟨b0, b1⟩ := rd_byte hl p hp hpl
      rw [if_pos hpl, if_pos hp, if_neg (show ¬ n = 0 by omega), w0 (i := rd l p) (by omega) (by omega)]
      obtain ⟨t0, t1⟩ := tm_bd (rd l p) n b0 (by omega)
      exact ⟨_, t0, t1, fun _ => rfl⟩
    · rw [if_neg hpl, if_neg (show ¬ (l.length : Int) = 0 by omega), w0 (i := p * 7) (by omega) (by omega), w0 (i := p * 7 + 3) (by omega) (by omega)]
      obtain ⟨i0, i1⟩ := tm_bd p (l.length : Int) hp hlp
      obtain ⟨j0, j1⟩ := tm_bd (p * 7 + 3) (l.length : Int) (by omega) hlp
      obtain ⟨q0, q1⟩ := td_bd p (l.length : Int) hp hlp
      rw [if_pos i0, if_pos i1, if_pos j0, if_pos j1, if_neg (show ¬ n = 0 by omega)]
      obtain ⟨a0, a1⟩ := rd_byte hl _ i0 i1
      obtain ⟨b0, b1⟩ := rd_byte hl _ j0 j1
      generalize rd l (Int.tmod p (l.length : Int)) = a at a0 a1 ⊢
      generalize rd l (Int.tmod (p * 7 + 3) (l.length : Int)) = b at b0 b1 ⊢
      generalize Int.tdiv p (l.length : Int) = q at q0 q1 ⊢
      simp (disch := omega) only [w0]
      have x0 : 0 ≤ a * 131 + b * 1117 + p * 29 + q * 53 := by omega
      obtain ⟨d0, d1⟩ := td_bd (a * 131 + b * 1117 + p * 29 + q * 53) 64 x0 (by omega)
      rw [w0 (i := Int.tdiv (a * 131 + b * 1117 + p * 29 + q * 53) 64) (by omega) (by omega)]
      obtain ⟨t0, t1⟩ := tm_bd (Go.bits .xor .i64 (a * 131 + b * 1117 + p * 29 + q * 53) (Int.tdiv (a * 131 + b * 1117 + p * 29 + q * 53) 64)) n (xor_nn _ _ x0 (by omega) d0 (by omega)) (by omega)
      exact ⟨_, t0, t1, fun _ => rfl⟩
/-- What a reader's pick answers. -/
def pk (l : List Int) (p n : Int) : Int := ((spec_l6Rd_pick.f 1 l p n).getD (0, 0)).1
structure Rdr (l : List Int) : Prop where
  bytes : Bytes l
  len : l.length ≤ 2000
theorem pk_f {l : List Int} (h : Rdr l) (p n : Int) (k : Nat) (hp : 0 ≤ p) (hp' : p ≤ 1000000) (h1 : 1 ≤ n) (h2 : n ≤ 1000000) (hk : 1 ≤ k) : spec_l6Rd_pick.f k l p n = some (pk l p n, p + 1) := by
  obtain ⟨v, _, _, hv⟩ := pick_some l h.bytes h.len p n hp hp' h1 h2
  unfold pk
  rw [hv 0]
  obtain ⟨k, rfl⟩ : ∃ m, k = m + 1 := ⟨k - 1, by omega⟩
  rw [hv k]
  rfl
theorem pk_bd {l : List Int} (h : Rdr l) (p n : Int) (hp : 0 ≤ p) (hp' : p ≤ 1000000) (h1 : 1 ≤ n) (h2 : n ≤ 1000000) : 0 ≤ pk l p n ∧ pk l p n < n := by
  obtain ⟨v, h3, h4, hv⟩ := pick_some l h.bytes h.len p n hp hp' h1 h2
  unfold pk
  rw [hv 0]
  exact ⟨h3, h4⟩
theorem open_f (l : List Int) (hl : Bytes l) : ∃ s, spec_l6Open.f l = some (s, 0) ∧ Rdr s := by
  unfold spec_l6Open.f
  by_cases h : (l.length : Int) > 2000
  · rw [if_pos h, if_pos (by omega)]
    exact ⟨_, rfl, ⟨fun n hn => hl n (List.mem_of_mem_take hn), by simp; omega⟩⟩
  · rw [if_neg h]
    exact ⟨_, rfl, ⟨hl, by omega⟩⟩
theorem bytes_of {l : List Int} (h : ∀ n ∈ l, (Lit.int .u8 n).wf = true) : Bytes l := fun n hn => by
  have := h n hn
  simp [Lit.wf, IntKind.min, IntKind.max, IntKind.signed, IntKind.bits] at this
  omega
theorem letter_f (a : Int) : spec_l1Letter.f a = some (Int.tmod a 7) := rfl
theorem clamp_bd (a b x : Int) (h : a ≤ b) : a ≤ mx a (mn b x) ∧ mx a (mn b x) ≤ b := by
  unfold mx mn
  constructor <;> (repeat' split) <;> omega
theorem mel_end (l : List Int) (h : Rdr l) (acc : List S30) (n : Nat) (x p : Int) (hn : n ≤ 20) (ha : acc.length = n) (hp : 0 ≤ p) (hp' : p ≤ 100000) :
    ∃ m q, m.length = n ∧ p ≤ q ∧ q ≤ p + 2 ∧ ∀ k, 2 ≤ k → spec_l91Melody.l0 k acc (n : Int) x (n : Int) l p = some (m, q) := by
  by_cases h0 : n = 0
  · refine ⟨acc, p, ha, by omega, by omega, fun k hk => ?_⟩
    obtain ⟨k, rfl⟩ : ∃ m, k = m + 1 := ⟨k - 1, by omega⟩
    simp only [spec_l91Melody.l0]
    rw [if_neg (by omega), if_neg (by omega)]
  · by_cases h1 : pk l p 50 = 0
    · obtain ⟨v0, v1⟩ := pk_bd h (p + 1) 3 (by omega) (by omega) (by omega) (by omega)
      refine ⟨acc.set (0 : Int).toNat ⟨rd ([-1, 21, 20] : List Int) (pk l (p + 1) 3), (rd_T30 acc 0).f1⟩, p + 1 + 1, by simp [ha], by omega, by omega, fun k hk => ?_⟩
      obtain ⟨k, rfl⟩ : ∃ m, k = m + 1 := ⟨k - 1, by omega⟩
      simp only [spec_l91Melody.l0]
      rw [if_neg (by omega), if_pos (by omega), pk_f h p 50 k (by omega) (by omega) (by omega) (by omega) (by omega)]
      simp only [Option.bind_some]
      rw [if_pos h1, pk_f h (p + 1) 3 k (by omega) (by omega) (by omega) (by omega) (by omega)]
      simp only [Option.bind_some]
      rw [if_pos v0, if_pos (by simpa using v1), if_pos (by omega)]
    · by_cases h2 : pk l p 50 = 1
      · have e : wrap64 ((n : Int) - 1) = ((n - 1 : Nat) : Int) := by rw [w0 (by omega) (by omega)]; omega
        refine ⟨acc.set (((n - 1 : Nat) : Int)).toNat ⟨(rd_T30 acc ((n - 1 : Nat) : Int)).f0, true⟩, p + 1, by simp [ha], by omega, by omega, fun k hk => ?_⟩
        obtain ⟨k, rfl⟩ : ∃ m, k = m + 1 := ⟨k - 1, by omega⟩
        simp only [spec_l91Melody.l0]
        rw [if_neg (by omega), if_pos (by omega), pk_f h p 50 k (by omega) (by omega) (by omega) (by omega) (by omega)]
        simp only [Option.bind_some]
        rw [if_neg h1, if_pos h2, e, if_pos (by omega), if_pos (by omega)]
      · refine ⟨acc, p + 1, ha, by omega, by omega, fun k hk => ?_⟩
        obtain ⟨k, rfl⟩ : ∃ m, k = m + 1 := ⟨k - 1, by omega⟩
        simp only [spec_l91Melody.l0]
        rw [if_neg (by omega), if_pos (by omega), pk_f h p 50 k (by omega) (by omega) (by omega) (by omega) (by omega)]
        simp only [Option.bind_some]
        rw [if_neg h1, if_neg h2]
theorem mel_l0 (l : List Int) (h : Rdr l) (n : Nat) (hn : n ≤ 20) : ∀ (d i : Nat) (acc : List S30) (x p : Int), i + d = n → acc.length = i → 0 ≤ x → x ≤ 20 → 0 ≤ p → p ≤ 10000 + 2 * i →
    ∃ m q, m.length = n ∧ p ≤ q ∧ q ≤ p + 2 * d + 2 ∧ ∀ k, d + 2 ≤ k → spec_l91Melody.l0 k acc (n : Int) x (i : Int) l p = some (m, q) := by
  intro d
  induction d with
  | zero =>
    intro i acc x p hi ha h0 h1 hp hp'
    have e : i = n := by omega
    subst e
    obtain ⟨m, q, hm, q0, q1, hq⟩ := mel_end l h acc i x p hn ha hp (by omega)
    exact ⟨m, q, hm, q0, by omega, fun k hk => hq k (by omega)⟩
  | succ d ih =>
    intro i acc x p hi ha h0 h1 hp hp'
    by_cases hx : Int.tmod x 7 = 2
    · obtain ⟨v0, v1⟩ := pk_bd h (p + 1) 5 (by omega) (by omega) (by omega) (by omega)
      obtain ⟨c0, c1⟩ := clamp_bd 1 15 (x + pk l (p + 1) 5 - 2) (by omega)
      obtain ⟨m, q, hm, q0, q1, hq⟩ := ih (i + 1) (acc ++ [⟨x, pk l p 3 == 0⟩]) (mx 1 (mn 15 (x + pk l (p + 1) 5 - 2))) (p + 1 + 1) (by omega) (by simp [ha]) (by omega) (by omega) (by omega) (by omega)
      refine ⟨m, q, hm, by omega, by omega, fun k hk => ?_⟩
      obtain ⟨k, rfl⟩ : ∃ m, k = m + 1 := ⟨k - 1, by omega⟩
      simp only [spec_l91Melody.l0]
      rw [if_pos (by omega), letter_f]
      simp only [Option.bind_some]
      rw [if_pos hx, pk_f h p 3 k (by omega) (by omega) (by omega) (by omega) (by omega)]
      simp only [Option.bind_some]
      rw [if_pos (by omega), pk_f h (p + 1) 5 k (by omega) (by omega) (by omega) (by omega) (by omega)]
      simp only [Option.bind_some]
      rw [w1 (by omega), w0 (i := x + pk l (p + 1) 5) (by omega) (by omega), w0 (i := x + pk l (p + 1) 5 - 2) (by omega) (by omega)]
      exact hq k (by omega)
    · obtain ⟨v0, v1⟩ := pk_bd h p 5 (by omega) (by omega) (by omega) (by omega)
      obtain ⟨c0, c1⟩ := clamp_bd 1 15 (x + pk l p 5 - 2) (by omega)
      obtain ⟨m, q, hm, q0, q1, hq⟩ := ih (i + 1) (acc ++ [⟨x, false⟩]) (mx 1 (mn 15 (x + pk l p 5 - 2))) (p + 1) (by omega) (by simp [ha]) (by omega) (by omega) (by omega) (by omega)
      refine ⟨m, q, hm, by omega, by omega, fun k hk => ?_⟩
      obtain ⟨k, rfl⟩ : ∃ m, k = m + 1 := ⟨k - 1, by omega⟩
      simp only [spec_l91Melody.l0]
      rw [if_pos (by omega), letter_f]
      simp only [Option.bind_some]
      rw [if_neg hx, if_pos (by omega), pk_f h p 5 k (by omega) (by omega) (by omega) (by omega) (by omega)]
      simp only [Option.bind_some]
      rw [w1 (by omega), w0 (i := x + pk l p 5) (by omega) (by omega), w0 (i := x + pk l p 5 - 2) (by omega) (by omega)]
      exact hq k (by omega)
theorem mel_d (l : List Int) (h : Rdr l) (p : Int) (a : Nat) (ha : a ≤ 20) (hp : 0 ≤ p) (hp' : p ≤ 5000) : ∃ m q, m.length ≤ a ∧ p ≤ q ∧ q ≤ p + 100 ∧ ∀ k, 40 ≤ k → spec_l91Melody.f k l p (a : Int) = some (m, q) := by
  obtain ⟨v0, v1⟩ := pk_bd h p ((a : Int) + 1) (by omega) (by omega) (by omega) (by omega)
  obtain ⟨u0, u1⟩ := pk_bd h (p + 1) 5 (by omega) (by omega) (by omega) (by omega)
  obtain ⟨n, hn⟩ := Int.eq_ofNat_of_zero_le v0
  obtain ⟨m, q, hm, q0, q1, hq⟩ := mel_l0 l h n (by omega) n 0 [] (4 + pk l (p + 1) 5) (p + 1 + 1) (by omega) rfl (by omega) (by omega) (by omega) (by omega)
  refine ⟨m, q, by omega, by omega, by omega, fun k hk => ?_⟩
  unfold spec_l91Melody.f
  rw [w0 (i := (a : Int) + 1) (by omega) (by omega), pk_f h p ((a : Int) + 1) k (by omega) (by omega) (by omega) (by omega) (by omega)]
  simp only [Option.bind_some]
  rw [pk_f h (p + 1) 5 k (by omega) (by omega) (by omega) (by omega) (by omega)]
  simp only [Option.bind_some]
  rw [w0 (i := 4 + pk l (p + 1) 5) (by omega) (by omega), hn]
  exact hq k (by omega)
def AL : List S30 := (spec_l1All.f 30).getD []
theorem al_f (k : Nat) (hk : 30 ≤ k) : spec_l1All.f k = some AL := by
  have h : (spec_l1All.f 30).isSome = true := by decide +kernel
  obtain ⟨v, hv⟩ := Option.isSome_iff_exists.1 h
  have e : AL = v := by unfold AL; rw [hv]; rfl
  have := mono_up (f := fun k => spec_l1All.f k) (fun j => spec_l1All.mono j) (k - 30) v hv
  rw [show 30 + (k - 30) = k by omega] at this
  rw [e]
  exact this
theorem al_tv : AL.all tvv = true := by decide +kernel
theorem al_mem : ∀ m, m < 21 → ∀ b : Bool, tv ((m : Nat) : Int) b = true → AL.any (fun t => t.f0 == (m : Int) && t.f1 == b) = true := by decide +kernel
theorem al_len : AL.length ≤ 30 := by decide +kernel
theorem bytes_inj {a b : ByteArray} (h : a.toList = b.toList) : a = b := by
  rw [ByteArray.toList_eq, ByteArray.toList_eq] at h
  exact ByteArray.ext (Array.ext' h)
def FT (s : ByteArray) (l : List S30) : Int × Bool × Bool := match l.find? (fun t => (ttx t).toList == s.toList) with | some t => (t.f0, t.f1, true) | none => (0, false, false)
theorem from_l0 (s : ByteArray) : ∀ (d i k : Nat), i + d = AL.length → d + 10 < k → spec_ToneFrom.l0 k s AL (i : Int) = some (FT s (AL.drop i)) := by
  have hal := al_len
  intro d
  induction d with
  | zero =>
    intro i k hi hk
    obtain ⟨k, rfl⟩ : ∃ m, k = m + 1 := ⟨k - 1, by omega⟩
    simp only [spec_ToneFrom.l0]
    rw [if_neg (by omega), List.drop_eq_nil_of_le (by omega)]
    rfl
  | succ d ih =>
    intro i k hi hk
    obtain ⟨k, rfl⟩ : ∃ m, k = m + 1 := ⟨k - 1, by omega⟩
    have hlt : i < AL.length := by omega
    simp only [spec_ToneFrom.l0]
    rw [if_pos (by omega), if_pos (by omega), rdt_at AL i hlt, stt_f (List.all_eq_true.1 al_tv _ (List.getElem_mem hlt)) k (by omega), Option.bind_some, w1 (by omega), List.drop_eq_getElem_cons hlt]
    unfold FT
    by_cases h : (ttx AL[i]).toList = s.toList
    · rw [if_pos h, List.find?_cons_of_pos (by rw [h]; exact beq_self_eq_true _)]
    · rw [if_neg h, List.find?_cons_of_neg (by simpa using h)]
      exact ih (i + 1) k (by omega) (by omega)
theorem tfOk_yes {s : ByteArray} {m : Nat} {b : Bool} (h : tfOk s m b = true) : tv (m : Int) b = true ∧ (ttx ⟨(m : Int), b⟩).toList = s.toList := by
  unfold tfOk at h
  rw [tv_impl, Bool.and_eq_true, beq_iff_eq, beq_iff_eq] at h
  exact ⟨Option.some.inj h.1, h.2⟩
theorem tfGo_yes (s : ByteArray) : ∀ (d m : Nat) (t : S30), tfGo s d m = (t, true) → tvv t = true ∧ (ttx t).toList = s.toList
  | 0, m, t, h => by simp [tfGo] at h
  | d + 1, m, t, h => by
    simp only [tfGo] at h
    by_cases h1 : tfOk s m false = true
    · rw [if_pos h1] at h
      rw [← (Prod.mk.inj h).1]
      exact tfOk_yes h1
    · rw [if_neg h1] at h
      by_cases h2 : tfOk s m true = true
      · rw [if_pos h2] at h
        rw [← (Prod.mk.inj h).1]
        exact tfOk_yes h2
      · rw [if_neg h2] at h
        exact tfGo_yes s d (m + 1) t h
theorem tfGo_no (s : ByteArray) : ∀ (d m : Nat), (tfGo s d m).2 = false → tfGo s d m = (⟨0, false⟩, false)
  | 0, m, h => rfl
  | d + 1, m, h => by
    simp only [tfGo] at h ⊢
    by_cases h1 : tfOk s m false = true
    · rw [if_pos h1] at h
      simp at h
    · rw [if_neg h1] at h ⊢
      by_cases h2 : tfOk s m true = true
      · rw [if_pos h2] at h
        simp at h
      · rw [if_neg h2] at h ⊢
        exact tfGo_no s d (m + 1) h
theorem from_f (s : ByteArray) (k : Nat) (hk : 60 ≤ k) : spec_ToneFrom.f k s = some ((tfGo s 21 0).1.f0, (tfGo s 21 0).1.f1, (tfGo s 21 0).2) := by
  have hal := al_len
  unfold spec_ToneFrom.f
  rw [al_f k (by omega), Option.bind_some]
  have h := from_l0 s AL.length 0 k (by omega) (by omega)
  rw [show ((0 : Nat) : Int) = 0 from rfl, List.drop_zero] at h
  rw [h]
  congr 1
  unfold FT
  cases hf : AL.find? (fun t => (ttx t).toList == s.toList) with
  | some t =>
    have h1 := List.find?_some hf
    have h2 := List.mem_of_find?_eq_some hf
    have e : ttx t = s := bytes_inj (by simpa using h1)
    have e2 := tf_ttx (List.all_eq_true.1 al_tv t h2)
    rw [e] at e2
    rw [e2]
  | none =>
    have hn := List.find?_eq_none.1 hf
    have key : (tfGo s 21 0).2 = false := by
      cases hb : (tfGo s 21 0).2 with
      | false => rfl
      | true =>
        exfalso
        rcases hP : tfGo s 21 0 with ⟨⟨a, b⟩, z⟩
        rw [hP] at hb
        have hz : z = true := hb
        rw [hz] at hP
        obtain ⟨f1, f2⟩ := tfGo_yes s 21 0 _ hP
        have hbd := tv_bd (show tv a b = true from f1)
        obtain ⟨m, rfl⟩ := Int.eq_ofNat_of_zero_le hbd.1
        obtain ⟨t, ht, h3⟩ := List.any_eq_true.1 (al_mem m (by omega) b f1)
        rw [Bool.and_eq_true, beq_iff_eq, beq_iff_eq] at h3
        obtain ⟨x, y⟩ := t
        obtain ⟨h4, h5⟩ := h3
        have h6 : x = (m : Int) := h4
        have h7 : y = b := h5
        subst h6 h7
        exact hn _ ht (by rw [f2]; exact beq_self_eq_true _)
    rw [tfGo_no s 21 0 key]
def mfM (r : Option (List S30)) : List S30 × Bool := match r with | some l => (l, true) | none => ([], false)
theorem mfs_l0 (ws : List ByteArray) (hw : ws.length ≤ 1000) : ∀ (d i k : Nat) (acc : List S30), i + d = ws.length → acc.length = i → i ≤ 24 → d + 70 < k → spec_MelodyFrom.l0 k acc ws (i : Int) = some (mfM (mfGo (ws.drop i) acc)) := by
  intro d
  induction d with
  | zero =>
    intro i k acc hi ha h24 hk
    obtain ⟨k, rfl⟩ : ∃ m, k = m + 1 := ⟨k - 1, by omega⟩
    simp only [spec_MelodyFrom.l0]
    rw [if_neg (by omega), List.drop_eq_nil_of_le (by omega)]
    rfl
  | succ d ih =>
    intro i k acc hi ha h24 hk
    obtain ⟨k, rfl⟩ : ∃ m, k = m + 1 := ⟨k - 1, by omega⟩
    have hlt : i < ws.length := by omega
    have hr : rdOf ByteArray.empty ws (i : Int) = ws[i] := by simp [rdOf, List.getD_eq_getElem?_getD, hlt]
    simp only [spec_MelodyFrom.l0]
    rw [if_pos (by omega), if_pos (by omega), hr, from_f _ k (by omega), Option.bind_some, w1 (by omega), List.drop_eq_getElem_cons hlt]
    simp only [mfGo]
    obtain ⟨⟨a, b⟩, z⟩ := tfGo ws[i] 21 0
    cases z with
    | false => rw [if_neg (by simp), if_pos (by rfl)]; rfl
    | true =>
      rw [if_pos (by rfl), if_neg (show ¬ true = false by decide)]
      by_cases h2 : i = 24
      · rw [if_pos (by omega), if_pos (by omega)]; rfl
      · rw [if_neg (by omega), if_pos (by omega), if_neg (by omega)]
        exact ih (i + 1) k (acc ++ [⟨a, b⟩]) (by omega) (by rw [List.length_append, ha]; rfl) (by omega) (by omega)
theorem mfRes_eq (s : ByteArray) : mfRes s = if s.toList = [] then ([], true) else mfM (mfGo (splitW s) []) := rfl
theorem mfs_f (s : ByteArray) (hs : s.size ≤ 900) (k : Nat) (hk : 1200 ≤ k) : spec_MelodyFrom.f k s = some (mfRes s) := by
  unfold spec_MelodyFrom.f
  rw [mfRes_eq]
  simp only [Option.bind_some]
  by_cases h : s.toList = []
  · rw [if_pos h, if_pos h]
  · have hl := splitW_le s
    rw [if_neg h, if_neg h, cut_f s (by omega) k (by omega), Option.bind_some]
    have := mfs_l0 (splitW s) (by omega) (splitW s).length 0 k [] (by omega) rfl (by omega) (by omega)
    rw [show ((0 : Nat) : Int) = 0 from rfl, List.drop_zero] at this
    exact this
theorem mfi_f (s : ByteArray) (hs : s.size ≤ 2000) (k : Nat) : impl_MelodyFrom.f k s = some (mfRes s) := by
  unfold impl_MelodyFrom.f
  rw [if_pos (by omega)]
theorem mfGo_inv : ∀ (ws : List ByteArray) (acc l : List S30), mfGo ws acc = some l → ∃ l', l = acc ++ l' ∧ l'.map ttx = ws ∧ l'.all tvv = true ∧ (acc.length ≤ 24 → l.length ≤ 24)
  | [], acc, l, h => by
    simp only [mfGo] at h
    rw [← Option.some.inj h]
    exact ⟨[], by simp, rfl, rfl, fun x => x⟩
  | x :: xs, acc, l, h => by
    simp only [mfGo] at h
    by_cases h1 : (tfGo x 21 0).2 = false
    · rw [if_pos h1] at h; simp at h
    · rw [if_neg h1] at h
      by_cases h2 : acc.length = 24
      · rw [if_pos h2] at h; simp at h
      · rw [if_neg h2] at h
        obtain ⟨l', e1, e2, e3, e4⟩ := mfGo_inv xs _ l h
        rw [Bool.not_eq_false] at h1
        have h3 : tfGo x 21 0 = ((tfGo x 21 0).1, true) := Prod.ext rfl h1
        obtain ⟨f1, f2⟩ := tfGo_yes x 21 0 _ h3
        refine ⟨(tfGo x 21 0).1 :: l', by rw [e1, List.append_assoc]; rfl, ?_, ?_, fun ha => e4 ?_⟩
        · rw [List.map_cons, e2, bytes_inj f2]
        · rw [List.all_cons, f1, e3]; rfl
        · rw [List.length_append]
          show acc.length + 1 ≤ 24
          omega
theorem mfGo_bad (e : ByteArray) (he : (tfGo e 21 0).2 = false) : ∀ (ws : List ByteArray) (acc : List S30), mfGo (ws ++ [e]) acc = none
  | [], acc => by
    rw [List.nil_append]
    simp only [mfGo]
    rw [if_pos he]
  | x :: ws, acc => by
    rw [List.cons_append]
    simp only [mfGo]
    split
    · rfl
    · split
      · rfl
      · exact mfGo_bad e he ws _
theorem bad_empty : (tfGo (⟨#[]⟩ : ByteArray) 21 0).2 = false := by
  rw [tfGo_eq]
  decide +kernel
theorem res_space (s : ByteArray) : (mfRes (s ++ (⟨#[32]⟩ : ByteArray))).2 = false := by
  have hd : (s ++ (⟨#[32]⟩ : ByteArray)).data.toList = s.data.toList ++ [32] := by rw [ByteArray.data_append, Array.toList_append]
  have hne : ¬ (s ++ (⟨#[32]⟩ : ByteArray)).toList = [] := by
    rw [ByteArray.toList_eq, hd]
    simp
  have e : splitW (s ++ (⟨#[32]⟩ : ByteArray)) = splitW s ++ [(⟨#[]⟩ : ByteArray)] := by
    apply map_data_inj
    rw [splitW_sp, hd, sp_snoc, List.map_append, splitW_sp]
    rfl
  rw [mfRes_eq, if_neg hne, e, mfGo_bad _ bad_empty]
  rfl
theorem of_f {o : List Int} (hR : Rdr o) (q : Int) (h0 : 0 ≤ q) (h1 : q ≤ 100000) (L : List ByteArray) (hl : 0 < L.length) (hl2 : L.length ≤ 10) (h3 : ∀ x ∈ L, x.size ≤ 3) : ∃ v q', v.size ≤ 3 ∧ ∀ k, 2 ≤ k → spec_l6Rd_of.f k o q L = some (v, q') := by
  have hb := pk_bd hR q (L.length : Int) h0 (by omega) (by omega) (by omega)
  obtain ⟨n, hn⟩ := Int.eq_ofNat_of_zero_le hb.1
  have hlt : n < L.length := by omega
  refine ⟨L[n], q + 1, h3 _ (List.getElem_mem hlt), fun k hk => ?_⟩
  unfold spec_l6Rd_of.f
  rw [pk_f hR q (L.length : Int) k h0 (by omega) (by omega) (by omega) (by omega), Option.bind_some, hn]
  rw [if_pos (by omega), if_pos (by omega)]
  simp [rdOf, List.getD_eq_getElem?_getD, hlt]
theorem many_g : ∃ v : ByteArray, v.size ≤ 100 ∧ ∀ k, 12 ≤ k → spec_l6Many.f k (⟨#[71, 48, 32]⟩ : ByteArray) 24 = some v := by
  have h : ((spec_l6Many.f 12 (⟨#[71, 48, 32]⟩ : ByteArray) 24).map ByteArray.size) = some 72 := by decide +kernel
  cases hv : spec_l6Many.f 12 (⟨#[71, 48, 32]⟩ : ByteArray) 24 with
  | none => rw [hv] at h; simp at h
  | some v =>
    rw [hv] at h
    refine ⟨v, by have := Option.some.inj h; omega, fun k hk => ?_⟩
    have := mono_up (f := fun k => spec_l6Many.f k (⟨#[71, 48, 32]⟩ : ByteArray) 24) (fun j => spec_l6Many.mono _ _ j) (k - 12) v hv
    rw [show 12 + (k - 12) = k by omega] at this
    exact this
theorem from_law (s : ByteArray) (hs : s.size ≤ 300) (k : Nat) (hk : 2500 ≤ k) (l0 : List Int) (hl : ¬ (l0.length : Int) > 1048576) (hd : spec_DrawMelodyFrom.f k l0 = some s) : laws_FnMelodyFrom.f k l0 = some true := by
  unfold laws_FnMelodyFrom.f
  have hlen : (mfRes s).1.length ≤ 24 := by
    rw [mfRes_eq]
    split
    · simp
    · cases hm : mfGo (splitW s) [] with
      | none => simp [mfM]
      | some l =>
        obtain ⟨l', _, _, _, h4⟩ := mfGo_inv _ _ _ hm
        exact h4 (by simp)
  obtain ⟨k', hk'⟩ : ∃ m, k = m + 1 := ⟨k - 1, by omega⟩
  rw [if_neg hl, hd, Option.bind_some, mfi_f s (by omega), Option.bind_some, mfs_f s (by omega) k (by omega), Option.bind_some, bne_self_eq_false, if_neg (by decide), sameT_f _ k (by omega) (by omega), Option.bind_some, if_pos rfl, hk']
  by_cases hj : (mfRes s).2 = true
  · have key : MV (mfRes s).1 = true ∧ (mjoin ((mfRes s).1.map ttx)).toList = s.toList := by
      rw [mfRes_eq] at hj ⊢
      by_cases h0 : s.toList = []
      · rw [if_pos h0, h0]
        exact ⟨rfl, by rw [ByteArray.toList_eq]; rfl⟩
      · rw [if_neg h0] at hj ⊢
        cases hm : mfGo (splitW s) [] with
        | none => rw [hm] at hj; exact absurd hj (by simp [mfM])
        | some l =>
          obtain ⟨l', e1, e2, e3, e4⟩ := mfGo_inv _ _ _ hm
          rw [List.nil_append] at e1
          subst e1
          refine ⟨?_, ?_⟩
          · show MV l = true
            unfold MV
            rw [e3, decide_eq_true (e4 (by simp))]
            rfl
          · show (mjoin (l.map ttx)).toList = s.toList
            rw [e2, ByteArray.toList_eq, ByteArray.toList_eq]
            show Lib.join ((splitW s).map (·.data.toList)) [32] = _
            rw [splitW_sp, sp_join]
    have hsz : (s ++ (⟨#[32]⟩ : ByteArray)).size = s.size + 1 := by rw [ByteArray.size_append]; rfl
    rw [hj]
    simp only [laws_FnMelodyFrom.j0]
    rw [if_neg (by decide), if_pos (by omega), mfi_f _ (by omega), Option.bind_some, mvi_f _ k' (by omega), Option.bind_some, if_pos key.1, mti_f _ k' (by omega), if_pos key.1, Option.bind_some, if_pos key.2, res_space]
    rfl
  · rw [Bool.not_eq_true] at hj
    rw [hj]
    simp only [laws_FnMelodyFrom.j0]
    rw [if_pos (by decide), if_pos (by decide), sameT_f _ k' (by omega) (by omega), Option.bind_some]
theorem FnMelodyFrom : ∀ (l0 : List Int), l0.length ≤ maxLen → l0.length * 1 ≤ 140737488351232 → (∀ n ∈ l0, (Lit.int .u8 n).wf = true) → ∃ k, laws_FnMelodyFrom.f k l0 = some true := by
  intro l0 z1 z2 hw
  refine ⟨2600, ?_⟩
  by_cases h : (l0.length : Int) > 1048576
  · unfold laws_FnMelodyFrom.f
    rw [if_pos h]
  · obtain ⟨o, ho, hR⟩ := open_f l0 (bytes_of hw)
    obtain ⟨m, q, hm, q0, q1, hq⟩ := mel_d o hR 0 8 (by omega) (by omega) (by omega)
    have hq2 := hq 2600 (by omega)
    rw [show ((8 : Nat) : Int) = 8 from rfl] at hq2
    have hpk := pk_f hR q 8 2600 (by omega) (by omega) (by omega) (by omega) (by omega)
    have ht := smt_f m 2600 (by omega) (by omega)
    have hts : (if MV m = true then mjoin (m.map ttx) else (⟨#[]⟩ : ByteArray)).size ≤ 96 := by
      by_cases hM : MV m = true
      · rw [if_pos hM]; exact mjoin_size hM
      · rw [if_neg hM]; decide
    obtain ⟨T, hT⟩ : ∃ T, T = (if MV m = true then mjoin (m.map ttx) else (⟨#[]⟩ : ByteArray)) := ⟨_, rfl⟩
    rw [← hT] at ht hts
    have base : ∀ s, ((if pk o q 8 = 0 then ((spec_l6Rd_of.f 2600 o (q + 1) (([(⟨#[32]⟩ : ByteArray), (⟨#[32, 88, 49]⟩ : ByteArray), (⟨#[71, 48]⟩ : ByteArray), (⟨#[32, 71, 48]⟩ : ByteArray)] : List ByteArray))).bind fun bt191 => (if T.size + bt191.1.size ≤ 9223372036854775807 then (some (T ++ bt191.1)) else (none))) else (if pk o q 8 = 1 then ((spec_l6Many.f 2600 (⟨#[71, 48, 32]⟩ : ByteArray) 24).bind fun t193 => ((spec_l6Rd_of.f 2600 o (q + 1) (([(⟨#[65, 48]⟩ : ByteArray), (⟨#[]⟩ : ByteArray)] : List ByteArray))).bind fun bt197 => (if t193.size + bt197.1.size ≤ 9223372036854775807 then (some (t193 ++ bt197.1)) else (none)))) else (some T)))) = some s → spec_DrawMelodyFrom.f 2600 l0 = some s := by
      intro s hs
      unfold spec_DrawMelodyFrom.f
      rw [ho]
      simp only [Option.bind_some]
      rw [hq2, Option.bind_some]
      simp only
      rw [ht, Option.bind_some, hpk, Option.bind_some]
      exact hs
    by_cases h0 : pk o q 8 = 0
    · obtain ⟨v, q', hv, hof⟩ := of_f hR (q + 1) (by omega) (by omega) [(⟨#[32]⟩ : ByteArray), (⟨#[32, 88, 49]⟩ : ByteArray), (⟨#[71, 48]⟩ : ByteArray), (⟨#[32, 71, 48]⟩ : ByteArray)] (by decide) (by decide) (by decide)
      refine from_law (T ++ v) (by rw [ByteArray.size_append]; omega) 2600 (by omega) l0 h (base _ ?_)
      rw [if_pos h0, hof 2600 (by omega), Option.bind_some]
      simp only
      rw [if_pos (by omega)]
    · by_cases h1 : pk o q 8 = 1
      · obtain ⟨v, q', hv, hof⟩ := of_f hR (q + 1) (by omega) (by omega) [(⟨#[65, 48]⟩ : ByteArray), (⟨#[]⟩ : ByteArray)] (by decide) (by decide) (by decide)
        obtain ⟨g, hg, hmany⟩ := many_g
        refine from_law (g ++ v) (by rw [ByteArray.size_append]; omega) 2600 (by omega) l0 h (base _ ?_)
        rw [if_neg h0, if_pos h1, hmany 2600 (by omega), Option.bind_some, hof 2600 (by omega), Option.bind_some]
        simp only
        rw [if_pos (by omega)]
      · refine from_law T (by omega) 2600 (by omega) l0 h (base _ ?_)
        rw [if_neg h0, if_neg h1]

end Go.Proofs.YtcndojoghmblaaaDoor.PureFnMelodyFrom
