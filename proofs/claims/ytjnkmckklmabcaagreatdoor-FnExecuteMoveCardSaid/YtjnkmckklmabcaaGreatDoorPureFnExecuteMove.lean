/- FnExecuteMove: for every list of at most 1048576 bytes, the law of Execute's move holds of the melody and the number that the reference draws from it, and the list reads as before (longer lists the statement lets pass). The tables letterNames and letterHeights are tied to the program's text; of the library's own variable internal/bytealg.MaxLen the world's shape alone is used. No condition beyond the statement's own. -/
import Derived.Test.YtjnkmckklmabcaaGreatDoorXMx0
import Derived.Test.YtjnkmckklmabcaaGreatDoorXMx8
import Derived.Test.YtjnkmckklmabcaaGreatDoorXMx2
import Derived.Test.YtjnkmckklmabcaaGreatDoorXMx3
import Derived.Test.YtjnkmckklmabcaaGreatDoorXMx5
import Derived.Test.YtjnkmckklmabcaaGreatDoorXMx4
import Derived.Test.YtjnkmckklmabcaaGreatDoorXMx10
import Derived.Test.YtjnkmckklmabcaaGreatDoorXMx9
import Derived.Test.YtjnkmckklmabcaaGreatDoorXMx7
import Derived.Test.YtjnkmckklmabcaaGreatDoorXMx6
import Derived.Test.YtjnkmckklmabcaaGreatDoorXMx11
import Derived.Laws.Bits64
namespace Go.Proofs.YtjnkmckklmabcaaGreatDoor.PureFnExecuteMove
open Go.RowKit Go.Proofs.YtjnkmckklmabcaaGreatDoor.XM Go.Proofs.YtjnkmckklmabcaaGreatDoorW.PrintWords Go.Proofs.YtjnkmckklmabcaaGreatDoorW.PrintLast Go.Proofs.YtjnkmckklmabcaaGreatDoorW.PrintMore 
set_option linter.unusedVariables false
set_option linter.unusedSimpArgs false
theorem w1 {i : Nat} (h : i < 4611686018427387904) : wrap64 ((i : Int) + 1) = ((i + 1 : Nat) : Int) := by
  unfold wrap64
  omega
theorem w0 {i : Int} (h : -9223372036854775808 ≤ i) (h' : i ≤ 9223372036854775807) : wrap64 i = i := by
  unfold wrap64
  omega
theorem rd_at (xs : List Int) (i : Nat) (h : i < xs.length) : rd xs (i : Int) = xs[i] := by
  simp [rd, List.getD_eq_getElem?_getD, h]
/-- A tone of the gamut. -/
def tv (a : Int) (b : Bool) : Bool := decide (0 ≤ a) && (decide (a ≤ 20) && (!b || decide (Int.tmod a 7 = 2)))
theorem tv_spec (a : Int) (b : Bool) : spec_ToneValid.f a b = some (tv a b) := by
  unfold spec_ToneValid.f spec_l6In.f spec_l1Letter.f tv
  by_cases h0 : a ≥ 0
  · rw [if_pos h0, decide_eq_true (show 0 ≤ a from h0)]
    by_cases h1 : a ≤ 20
    · simp only [h1, decide_true, Option.bind_some, if_true, Bool.true_and]
      cases b
      · rfl
      · simp
        rfl
    · simp [h1]
  · rw [if_neg h0, decide_eq_false (show ¬ 0 ≤ a from h0)]
    rfl
theorem tv_impl (a : Int) (b : Bool) : impl_Tone_valid.f a b = some (tv a b) := by
  unfold impl_Tone_valid.f tv
  by_cases h0 : a ≥ 0
  · rw [if_pos h0, decide_eq_true (show 0 ≤ a from h0)]
    by_cases h1 : a ≤ 20
    · rw [if_pos h1, decide_eq_true h1]
      cases b
      · rfl
      · simp
        rfl
    · rw [if_neg h1, decide_eq_false h1]
      rfl
  · rw [if_neg h0, decide_eq_false (show ¬ 0 ≤ a from h0)]
    rfl
theorem in_spec (a b c : Int) : spec_l6In.f a b c = some (decide (b ≤ a) && decide (a ≤ c)) := by
  unfold spec_l6In.f
  by_cases h0 : a ≥ b
  · rw [if_pos h0, decide_eq_true (show b ≤ a from h0)]; rfl
  · rw [if_neg h0, decide_eq_false (show ¬ b ≤ a from h0)]; rfl
def tvv (t : S74) : Bool := tv t.f0 t.f1
theorem rdt_at (xs : List S74) (i : Nat) (h : i < xs.length) : rd_T74 xs (i : Int) = xs[i] := by
  simp [rd_T74, List.getD_eq_getElem?_getD, h]
def MV (l : List S74) : Bool := decide (l.length ≤ 24) && l.all tvv
theorem mvs_l0 (l : List S74) (hb : l.length < 4611686018427387904) : ∀ (d i k : Nat), i + d = l.length → d < k → (l.take i).all tvv = true → spec_MelodyValid.l0 k l (i : Int) = some (MV l) := by
  intro d
  induction d with
  | zero =>
    intro i k hi hk hv
    obtain ⟨k, rfl⟩ : ∃ m, k = m + 1 := ⟨k - 1, by omega⟩
    rw [List.take_of_length_le (by omega)] at hv
    simp only [spec_MelodyValid.l0]
    rw [if_neg (by omega)]
    unfold MV
    rw [hv, Bool.and_true]
    congr 1
    rw [decide_eq_decide]
    omega
  | succ d ih =>
    intro i k hi hk hv
    obtain ⟨k, rfl⟩ : ∃ m, k = m + 1 := ⟨k - 1, by omega⟩
    have hx : i < l.length := by omega
    simp only [spec_MelodyValid.l0]
    rw [if_pos (by omega), if_pos (by omega), rdt_at l i hx, tv_spec]
    simp only [Option.bind_some]
    by_cases hvi : tv l[i].f0 l[i].f1 = true
    · rw [if_pos hvi, w1 (by omega)]
      refine ih (i + 1) k (by omega) (by omega) ?_
      rw [List.take_succ_eq_append_getElem hx, List.all_append, hv]
      simp [tvv, hvi]
    · rw [if_neg hvi]
      have : l.all tvv = false := by
        rw [Bool.eq_false_iff]
        intro h
        exact hvi (List.all_eq_true.1 h _ (List.getElem_mem hx))
      unfold MV
      rw [this, Bool.and_false]
theorem mvs_f (l : List S74) (hb : l.length ≤ 1048576) (k : Nat) (hk : l.length < k) : spec_MelodyValid.f k l = some (MV l) := by
  unfold spec_MelodyValid.f
  simpa using mvs_l0 l (by omega) l.length 0 k (by omega) (by omega) (by simp)
theorem mvi_l0 (l : List S74) (hb : l.length < 4611686018427387904) : ∀ (d i k : Nat), i + d = l.length → d < k → impl_MelodyValid.l0 k l (l.length : Int) (i : Int) = some ((l.drop i).all tvv) := by
  intro d
  induction d with
  | zero =>
    intro i k hi hk
    obtain ⟨k, rfl⟩ : ∃ m, k = m + 1 := ⟨k - 1, by omega⟩
    simp only [impl_MelodyValid.l0]
    rw [if_neg (by omega), List.drop_eq_nil_of_le (by omega)]
    rfl
  | succ d ih =>
    intro i k hi hk
    obtain ⟨k, rfl⟩ : ∃ m, k = m + 1 := ⟨k - 1, by omega⟩
    have hx : i < l.length := by omega
    simp only [impl_MelodyValid.l0]
    rw [if_pos (by omega), if_pos (by omega), if_pos (by omega), rdt_at l i hx, tv_impl, List.drop_eq_getElem_cons hx, List.all_cons]
    simp only [Option.bind_some]
    by_cases ht : tv l[i].f0 l[i].f1 = true
    · rw [if_pos ht, w1 (by omega), ih (i + 1) k (by omega) (by omega), show tvv l[i] = true from ht, Bool.true_and]
    · rw [if_neg ht, show tvv l[i] = false from Bool.eq_false_iff.mpr ht, Bool.false_and]
theorem mvi_f (l : List S74) (k : Nat) (hk : 25 ≤ k) : impl_MelodyValid.f k l = some (MV l) := by
  unfold impl_MelodyValid.f MV
  by_cases h : l.length ≤ 24
  · rw [if_neg (by omega), decide_eq_true h, Bool.true_and]
    simpa using mvi_l0 l (by omega) l.length 0 k (by omega) (by omega)
  · rw [if_pos (by omega), decide_eq_false h, Bool.false_and]

theorem mjoin_append (xs ys : List ByteArray) (hx : xs ≠ []) (hy : ys ≠ []) : mjoin (xs ++ ys) = mjoin xs ++ ⟨#[32]⟩ ++ mjoin ys := by
  cases xs with
  | nil => exact absurd rfl hx
  | cons x r =>
    cases ys with
    | nil => exact absurd rfl hy
    | cons y s =>
      apply ByteArray.ext
      rw [ByteArray.data_append, ByteArray.data_append]
      apply Array.ext'
      unfold mjoin
      simp [Lib.join_cons, Lib.joinTail, List.append_assoc]
theorem mti_f (l : List S74) (k : Nat) (hk : 25 ≤ k) : impl_MelodyText.f k l = some (if MV l = true then mjoin (l.map ttx) else ⟨#[]⟩) := by
  unfold impl_MelodyText.f
  rw [mvi_f l k hk, Option.bind_some]
theorem mjoin_size {l : List S74} (h : MV l = true) : (mjoin (l.map ttx)).size ≤ 96 := by
  have h1 := mvi_f l 25 (by omega)
  rw [h] at h1
  obtain ⟨h2, h3⟩ := mv_facts h1
  have := mt_small l h3
  show (Lib.join ((l.map ttx).map (·.data.toList)) [32]).length ≤ 96
  omega
theorem tv_bd {a : Int} {b : Bool} (h : tv a b = true) : 0 ≤ a ∧ a ≤ 20 := by
  unfold tv at h
  simp only [Bool.and_eq_true, decide_eq_true_eq] at h
  exact ⟨h.1, h.2.1⟩
def tfOk' (s : ByteArray) (m : Nat) (b : Bool) : Bool := (impl_Tone_valid.f (m : Int) b == some true) && (((impl_Tone_text.f (m : Int) b).getD ⟨#[]⟩).data.toList == s.data.toList)
def tfGo' (s : ByteArray) : Nat → Nat → S74 × Bool
  | 0, _ => (⟨0, false⟩, false)
  | d + 1, m => if tfOk' s m false = true then (⟨(m : Int), false⟩, true) else if tfOk' s m true = true then (⟨(m : Int), true⟩, true) else tfGo' s d (m + 1)
theorem tfOk_eq (s : ByteArray) (m : Nat) (b : Bool) : tfOk s m b = tfOk' s m b := by
  unfold tfOk tfOk'
  rw [ByteArray.toList_eq, ByteArray.toList_eq]
theorem tfGo_eq (s : ByteArray) : ∀ d m, tfGo s d m = tfGo' s d m
  | 0, _ => rfl
  | d + 1, m => by
    simp only [tfGo, tfGo']
    rw [tfOk_eq, tfOk_eq, tfGo_eq s d (m + 1)]
theorem tf_dec : ∀ m, m < 21 → ∀ b : Bool, tv ((m : Nat) : Int) b = true → (tfGo' ((impl_Tone_text.f (m : Int) b).getD ⟨#[]⟩) 21 0).1.f0 = (m : Int) ∧ (tfGo' ((impl_Tone_text.f (m : Int) b).getD ⟨#[]⟩) 21 0).1.f1 = b ∧ (tfGo' ((impl_Tone_text.f (m : Int) b).getD ⟨#[]⟩) 21 0).2 = true := by decide +kernel
theorem tf_ttx {t : S74} (h : tvv t = true) : tfGo (ttx t) 21 0 = (t, true) := by
  obtain ⟨a, b⟩ := t
  have hb := tv_bd (show tv a b = true from h)
  obtain ⟨m, rfl⟩ := Int.eq_ofNat_of_zero_le hb.1
  obtain ⟨h1, h2, h3⟩ := tf_dec m (by omega) b h
  rw [tfGo_eq]
  show tfGo' ((impl_Tone_text.f (m : Int) b).getD ⟨#[]⟩) 21 0 = _
  generalize tfGo' ((impl_Tone_text.f (m : Int) b).getD ⟨#[]⟩) 21 0 = P at h1 h2 h3 ⊢
  obtain ⟨⟨x, y⟩, z⟩ := P
  have g1 : x = (m : Int) := h1
  have g2 : y = b := h2
  have g3 : z = true := h3
  rw [g1, g2, g3]
theorem ttx_all : ∀ m, m < 21 → ∀ b : Bool, ((impl_Tone_text.f ((m : Nat) : Int) b).getD ⟨#[]⟩).data.toList ≠ [] ∧ ¬ (32 : UInt8) ∈ ((impl_Tone_text.f ((m : Nat) : Int) b).getD ⟨#[]⟩).data.toList := by decide +kernel
theorem ttx_facts {t : S74} (h : tvv t = true) : (ttx t).data.toList ≠ [] ∧ ¬ (32 : UInt8) ∈ (ttx t).data.toList := by
  obtain ⟨a, b⟩ := t
  have hb := tv_bd (show tv a b = true from h)
  obtain ⟨m, rfl⟩ := Int.eq_ofNat_of_zero_le hb.1
  exact ttx_all m (by omega) b
theorem idx_miss : ∀ l : List UInt8, ¬ (32 : UInt8) ∈ l → Lib.index l [32] = -1
  | [], _ => rfl
  | b :: l, h => by
    have ih := idx_miss l (fun x => h (List.mem_cons_of_mem _ x))
    have hb : (32 : UInt8) ≠ b := fun e => h (by rw [e]; exact List.mem_cons_self ..)
    unfold Lib.index
    rw [if_neg (by simpa [List.isPrefixOf] using hb), ih]
    rfl
theorem idx_hit : ∀ (l r : List UInt8), ¬ (32 : UInt8) ∈ l → Lib.index (l ++ 32 :: r) [32] = (l.length : Int)
  | [], r, _ => by
    show Lib.index (32 :: r) [32] = 0
    unfold Lib.index
    rw [if_pos (by simp [List.isPrefixOf])]
  | b :: l, r, h => by
    have ih := idx_hit l r (fun x => h (List.mem_cons_of_mem _ x))
    have hb : (32 : UInt8) ≠ b := fun e => h (by rw [e]; exact List.mem_cons_self ..)
    rw [List.cons_append]
    unfold Lib.index
    rw [if_neg (by simpa [List.isPrefixOf] using hb), ih, if_neg (by simp), List.length_cons]
    omega
theorem split_join : ∀ xs : List (List UInt8), xs ≠ [] → (∀ x ∈ xs, ¬ (32 : UInt8) ∈ x) → Lib.splitK [32] 0 (Lib.count (Lib.join xs [32]) [32]) (Lib.join xs [32]) = xs
  | [], h, _ => absurd rfl h
  | [x], _, h => by
    rw [Lib.join_one]
    have hx := idx_miss x (h x (List.mem_singleton.2 rfl))
    cases Lib.count x [32] with
    | zero => rfl
    | succ k =>
      unfold Lib.splitK
      rw [hx, if_pos (by rfl)]
  | x :: y :: r, _, h => by
    have ih := split_join (y :: r) (by simp) (fun z hz => h z (List.mem_cons_of_mem _ hz))
    have hx := h x (List.mem_cons_self ..)
    have e : Lib.join (x :: y :: r) [32] = x ++ 32 :: Lib.join (y :: r) [32] := by
      rw [Lib.join_cons, Lib.join_cons]
      simp [Lib.joinTail]
    rw [e]
    have hi := idx_hit x (Lib.join (y :: r) [32]) hx
    have hc := Lib.count_hit (s := x ++ 32 :: Lib.join (y :: r) [32]) (sub := [32]) (by simp) hi
    have hd : (x ++ 32 :: Lib.join (y :: r) [32]).drop (x.length + 1) = Lib.join (y :: r) [32] := by
      rw [List.drop_append, List.drop_eq_nil_of_le (by omega), List.nil_append, show x.length + 1 - x.length = 1 by omega]
      rfl
    rw [show x.length + [(32 : UInt8)].length = x.length + 1 from rfl, hd] at hc
    rw [hc, Nat.add_comm]
    unfold Lib.splitK
    rw [hi, if_neg (by simp)]
    have e2 : ((x.length : Nat) : Int).toNat = x.length := Int.toNat_natCast _
    rw [e2, show x.length + [(32 : UInt8)].length = x.length + 1 from rfl, hd, ih, Nat.add_zero, List.take_append_of_le_length (Nat.le_refl _), List.take_length]
theorem map_data_inj : ∀ a b : List ByteArray, a.map (·.data.toList) = b.map (·.data.toList) → a = b
  | [], [], _ => rfl
  | [], y :: b, h => by simp at h
  | x :: a, [], h => by simp at h
  | x :: a, y :: b, h => by
    rw [List.map_cons, List.map_cons] at h
    obtain ⟨h1, h2⟩ := List.cons.inj h
    rw [map_data_inj a b h2]
    congr 1
    apply ByteArray.ext
    exact Array.ext' h1
theorem splitW_join (ws : List ByteArray) (h0 : ws ≠ []) (h : ∀ x ∈ ws, ¬ (32 : UInt8) ∈ x.data.toList) : splitW (mjoin ws) = ws := by
  apply map_data_inj
  unfold splitW
  rw [Lib.splitB_data]
  refine split_join (ws.map (·.data.toList)) (by simpa using h0) ?_
  intro x hx
  obtain ⟨b, hb, rfl⟩ := List.mem_map.1 hx
  exact h b hb
theorem mfGo_ttx : ∀ (l acc : List S74), l.all tvv = true → acc.length + l.length ≤ 24 → mfGo (l.map ttx) acc = some (acc ++ l)
  | [], acc, _, _ => by simp [mfGo]
  | t :: l, acc, h, hl => by
    rw [List.all_cons, Bool.and_eq_true] at h
    rw [List.length_cons] at hl
    rw [List.map_cons]
    simp only [mfGo]
    rw [tf_ttx h.1, if_neg (by simp), if_neg (by omega), mfGo_ttx l _ h.2 (by rw [List.length_append]; simp; omega), List.append_assoc]
    rfl
theorem tv_ok (a : Int) (b : Bool) : tv a b = toneOk a b := by
  unfold tv toneOk
  by_cases h : 0 ≤ a
  · rw [Int.tmod_eq_emod_of_nonneg h]
  · simp [h]
theorem MV_ok {l : List S74} (h : MV l = true) : ∀ t ∈ l, toneOk t.f0 t.f1 = true := by
  unfold MV at h
  simp only [Bool.and_eq_true, decide_eq_true_eq] at h
  intro t ht
  rw [← tv_ok]
  exact List.all_eq_true.1 h.2 t ht
def SM (l : List S74) (a : Int) : List S74 × Bool := if MV l = true then mvMove a l else ([], false)
theorem MV_len {l : List S74} (h : MV l = true) : l.length ≤ 24 := by
  unfold MV at h
  simp only [Bool.and_eq_true, decide_eq_true_eq] at h
  exact h.1
theorem mmi_f (l : List S74) (a : Int) (k : Nat) (hk : 25 ≤ k) : impl_MelodyMove.f k l a = some (SM l a) := by
  unfold impl_MelodyMove.f SM
  rw [mvi_f l k hk, Option.bind_some]
theorem mvd_ok {t x : S74} {a s : Int} (h : mvd t a s = some x) : toneOk x.f0 x.f1 = true ∧ x.f0 = t.f0 + a ∧ htI x.f0 x.f1 - htI t.f0 t.f1 = s := by
  unfold mvd mvOk at h
  split at h
  · rename_i h1
    rw [← Option.some.inj h]
    simp only [Bool.and_eq_true, decide_eq_true_eq] at h1
    exact ⟨h1.1, rfl, h1.2⟩
  · split at h
    · rename_i h1
      rw [← Option.some.inj h]
      simp only [Bool.and_eq_true, decide_eq_true_eq] at h1
      exact ⟨h1.1, rfl, h1.2⟩
    · exact absurd h (by simp)
theorem mvAll_at (a s : Int) : ∀ (l xs : List S74), mvAll a s l = some xs → ∀ (i : Nat) (h : i < l.length) (h' : i < xs.length), mvd l[i] a s = some xs[i]
  | [], xs, _, i, h, _ => by simp at h
  | t :: ts, xs, hx, i, h, h' => by
    simp only [mvAll] at hx
    obtain ⟨y, h1, hx⟩ := Option.bind_eq_some_iff.mp hx
    obtain ⟨ys, h2, hx⟩ := Option.bind_eq_some_iff.mp hx
    obtain rfl := Option.some.inj hx
    cases i with
    | zero => exact h1
    | succ i => exact mvAll_at a s ts ys h2 i (by simpa using h) (by simpa using h')
/-- A moved melody: as long as the melody, each tone moved by the same steps and semitones. -/
theorem mvMove_ok {a : Int} {l xs : List S74} (h : mvMove a l = (xs, true)) : xs.length = l.length ∧ ∃ s, ∀ (i : Nat) (h : i < l.length) (h' : i < xs.length), toneOk xs[i].f0 xs[i].f1 = true ∧ xs[i].f0 = l[i].f0 + a ∧ htI xs[i].f0 xs[i].f1 - htI l[i].f0 l[i].f1 = s := by
  have key : ∀ s, mvAll a s l = some xs → xs.length = l.length ∧ ∃ s, ∀ (i : Nat) (h : i < l.length) (h' : i < xs.length), toneOk xs[i].f0 xs[i].f1 = true ∧ xs[i].f0 = l[i].f0 + a ∧ htI xs[i].f0 xs[i].f1 - htI l[i].f0 l[i].f1 = s :=
    fun s hs => ⟨mvAll_len a s l xs hs, s, fun i h1 h2 => mvd_ok (mvAll_at a s l xs hs i h1 h2)⟩
  cases l with
  | nil =>
    have := (Prod.mk.inj (show (([] : List S74), true) = (xs, true) from h)).1
    subst this
    exact ⟨rfl, 0, fun i h1 _ => by simp at h1⟩
  | cons t ts =>
    unfold mvMove at h
    dsimp only at h
    split at h
    · split at h
      · rename_i ys hy
        have := (Prod.mk.inj h).1
        subst this
        unfold mvTry at hy
        split at hy
        · exact key _ hy
        · exact absurd hy (by simp)
      · split at h
        · rename_i ys hy
          have := (Prod.mk.inj h).1
          subst this
          unfold mvTry at hy
          split at hy
          · exact key _ hy
          · exact absurd hy (by simp)
        · exact absurd (Prod.mk.inj h).2 (by decide)
    · exact absurd (Prod.mk.inj h).2 (by decide)
theorem hts_fin : ∀ b : Bool, ∀ n : Nat, n < 21 → decide (spec_l1Height.f (n : Int) b = some (htI (n : Int) b)) = true := by decide +kernel
theorem hts_f {a : Int} {b : Bool} (h : toneOk a b = true) : spec_l1Height.f a b = some (htI a b) := by
  have hb := toneOk_bd h
  obtain ⟨n, rfl⟩ := Int.eq_ofNat_of_zero_le hb.1
  exact of_decide_eq_true (hts_fin b n (by omega))
theorem diff_w {a b : Int} {x y : Bool} (h : toneOk a x = true) (h' : toneOk b y = true) : wrap64 (htI a x - htI b y) = htI a x - htI b y := by
  have := htI_bd h
  have := htI_bd h'
  unfold wrap64
  omega
theorem l2_test (l : List S74) (a s : Int) (h0 : -20 ≤ a) (h1 : a ≤ 20) (i : Nat) (hi : i < l.length) (hv : toneOk l[i].f0 l[i].f1 = true) (acc : List S74) (hacc : acc.length ≤ 100) (j : Int) (hj : j < 2) (hj0 : 0 ≤ j) (k : Nat) :
    spec_l2Moved.l1 (k + 2) l a s acc (i : Int) false j = if mvOk l[i] a s (j == 1) = true then spec_l2Moved.l1 k l a s (acc ++ [⟨l[i].f0 + a, (j == 1)⟩]) (i : Int) true (j + 1) else spec_l2Moved.l1 k l a s acc (i : Int) false (j + 1) := by
  have hb := toneOk_bd hv
  simp only [spec_l2Moved.l1]
  rw [if_pos hj, Bool.not_false]
  simp only [spec_l2Moved.j2]
  rw [if_pos trivial, if_pos (by omega), if_pos (by omega), rdt_at l i hi, w0 (i := l[i].f0 + a) (by omega) (by omega), tv_spec, tv_ok, Option.bind_some, w0 (i := j + 1) (by omega) (by omega)]
  unfold mvOk
  by_cases hok : toneOk (l[i].f0 + a) (j == 1) = true
  · rw [hok, if_pos rfl, hts_f hok, hts_f hv]
    simp only [Option.bind_some]
    rw [diff_w hok hv, Bool.true_and]
    by_cases hs : htI (l[i].f0 + a) (j == 1) - htI l[i].f0 l[i].f1 = s
    · rw [if_pos hs, if_pos (by omega), if_pos (decide_eq_true hs)]
    · rw [if_neg hs, if_neg (by rw [decide_eq_false hs]; decide)]
  · rw [Bool.eq_false_iff.mpr hok, if_neg (by decide), Bool.false_and, if_neg (by decide)]
theorem l2_found (l : List S74) (a s : Int) (acc : List S74) (i : Nat) (hi : i < 1000) (j : Int) (k : Nat) : spec_l2Moved.l1 (k + 2) l a s acc (i : Int) true j = spec_l2Moved.l0 k l a s acc ((i + 1 : Nat) : Int) := by
  simp only [spec_l2Moved.l1]
  split
  · rw [Bool.not_true]
    simp only [spec_l2Moved.j2]
    rw [if_neg (by decide), if_pos trivial, w1 (by omega)]
  · simp only [spec_l2Moved.j2]
    rw [if_neg (by decide), if_pos trivial, w1 (by omega)]
theorem l2_l0 (l : List S74) (a s : Int) (h0 : -20 ≤ a) (h1 : a ≤ 20) (hl : l.length ≤ 24) (hv : ∀ t ∈ l, toneOk t.f0 t.f1 = true) : ∀ (d i k : Nat) (acc : List S74), i + d = l.length → acc.length ≤ i → 8 * d + 8 ≤ k →
    spec_l2Moved.l0 k l a s acc (i : Int) = some (match mvAll a s (l.drop i) with | some xs => (acc ++ xs, true) | none => ([], false)) := by
  intro d
  induction d with
  | zero =>
    intro i k acc hi ha hk
    obtain ⟨k, rfl⟩ : ∃ m, k = m + 1 := ⟨k - 1, by omega⟩
    simp only [spec_l2Moved.l0]
    rw [if_neg (by omega), List.drop_eq_nil_of_le (by omega)]
    simp [mvAll]
  | succ d ih =>
    intro i k acc hi ha hk
    have hx : i < l.length := by omega
    have hvi := hv _ (List.getElem_mem hx)
    obtain ⟨k, rfl⟩ : ∃ m, k = m + 7 := ⟨k - 7, by omega⟩
    have e0 : spec_l2Moved.l0 (k + 7) l a s acc (i : Int) = spec_l2Moved.l1 (k + 6) l a s acc (i : Int) false 0 := by
      simp only [spec_l2Moved.l0]
      rw [if_pos (by omega)]
    rw [e0, l2_test l a s h0 h1 i hx hvi acc (by omega) 0 (by omega) (by omega) (k + 4), List.drop_eq_getElem_cons hx]
    simp only [mvAll, mvd]
    by_cases hf : mvOk l[i] a s ((0 : Int) == 1) = true
    · have hf' : mvOk l[i] a s false = true := hf
      rw [if_pos hf, if_pos hf', l2_found l a s _ i (by omega) _ (k + 2), ih (i + 1) (k + 2) _ (by omega) (by simp; omega) (by omega), Option.bind_some]
      cases mvAll a s (l.drop (i + 1)) with
      | none => rfl
      | some xs =>
        simp only [Option.bind_some, List.append_assoc, List.singleton_append]
        rfl
    · have hf' : ¬ mvOk l[i] a s false = true := hf
      rw [if_neg hf, if_neg hf', l2_test l a s h0 h1 i hx hvi acc (by omega) (0 + 1) (by omega) (by omega) (k + 2)]
      by_cases hg : mvOk l[i] a s (((0 : Int) + 1) == 1) = true
      · have hg' : mvOk l[i] a s true = true := hg
        rw [if_pos hg, if_pos hg', l2_found l a s _ i (by omega) _ k, ih (i + 1) k _ (by omega) (by simp; omega) (by omega), Option.bind_some]
        cases mvAll a s (l.drop (i + 1)) with
        | none => rfl
        | some xs =>
          simp only [Option.bind_some, List.append_assoc, List.singleton_append]
          rfl
      · have hg' : ¬ mvOk l[i] a s true = true := hg
        rw [if_neg hg, if_neg hg', Option.bind_none]
        simp only [spec_l2Moved.l1]
        rw [if_neg (by omega)]
        simp only [spec_l2Moved.j2]
        rw [if_neg (by decide), if_neg (by decide)]
theorem l2_f (l : List S74) (a s : Int) (h0 : -20 ≤ a) (h1 : a ≤ 20) (hl : l.length ≤ 24) (hv : ∀ t ∈ l, toneOk t.f0 t.f1 = true) (k : Nat) (hk : 210 ≤ k) :
    spec_l2Moved.f k l a s = some (match mvAll a s l with | some xs => (xs, true) | none => ([], false)) := by
  unfold spec_l2Moved.f
  simpa using l2_l0 l a s h0 h1 hl hv l.length 0 k [] (by omega) (by simp) (by omega)
theorem mms_l0 (l : List S74) (a : Int) (h0 : -20 ≤ a) (h1 : a ≤ 20) (hl : l.length ≤ 24) (hv : ∀ t ∈ l, toneOk t.f0 t.f1 = true) (hp : 0 < l.length) (j : Int) (hj : j < 2) (hj0 : 0 ≤ j) (k : Nat) (hk : 210 ≤ k) :
    spec_MelodyMove.l0 (k + 1) l a j = match mvTry l l[0] a (j == 1) with | some xs => some (xs, true) | none => spec_MelodyMove.l0 k l a (j + 1) := by
  have hvi := hv _ (List.getElem_mem hp)
  have hb := toneOk_bd hvi
  have er : rd_T74 l 0 = l[0] := rdt_at l 0 hp
  simp only [spec_MelodyMove.l0]
  rw [if_pos hj, if_pos (by omega), er, w0 (i := l[0].f0 + a) (by omega) (by omega), tv_spec, tv_ok, Option.bind_some, w0 (i := j + 1) (by omega) (by omega)]
  unfold mvTry
  by_cases hok : toneOk (l[0].f0 + a) (j == 1) = true
  · rw [if_pos hok, if_pos hok, hts_f hok, hts_f hvi]
    simp only [Option.bind_some]
    rw [diff_w hok hvi, l2_f l a _ h0 h1 hl hv k hk]
    cases mvAll a (htI (l[0].f0 + a) (j == 1) - htI l[0].f0 l[0].f1) l with
    | none => simp
    | some xs => simp
  · rw [if_neg hok, if_neg hok]
theorem mms_f (l : List S74) (a : Int) (hb : l.length ≤ 1048576) (k : Nat) (hk : l.length + 300 ≤ k) : spec_MelodyMove.f k l a = some (SM l a) := by
  unfold spec_MelodyMove.f SM
  by_cases hn : l.length = 0
  · have e : l = [] := List.length_eq_zero_iff.mp hn
    subst e
    rw [if_pos (by simp), if_pos (by decide)]
    rfl
  · rw [if_neg (by omega), mvs_f l hb k (by omega), Option.bind_some]
    obtain ⟨k, rfl⟩ : ∃ m, k = m + 4 := ⟨k - 4, by omega⟩
    by_cases hM : MV l = true
    · have hl := MV_len hM
      have hv := MV_ok hM
      rw [if_pos hM, if_pos hM, in_spec, Option.bind_some]
      simp only [spec_MelodyMove.j0]
      obtain ⟨t, ts, rfl⟩ : ∃ t ts, l = t :: ts := by
        cases l with
        | nil => simp at hn
        | cons t ts => exact ⟨t, ts, rfl⟩
      unfold mvMove
      dsimp only
      by_cases hr : -20 ≤ a ∧ a ≤ 20
      · rw [if_pos hr, decide_eq_true hr.1, decide_eq_true hr.2, if_neg (by decide), mms_l0 (t :: ts) a hr.1 hr.2 hl hv (by simp) 0 (by omega) (by omega) (k + 2) (by omega)]
        have e1 : mvTry (t :: ts) (t :: ts)[0] a ((0 : Int) == 1) = mvTry (t :: ts) t a false := rfl
        rw [e1]
        cases mvTry (t :: ts) t a false with
        | some xs => rfl
        | none =>
          dsimp only
          rw [mms_l0 (t :: ts) a hr.1 hr.2 hl hv (by simp) (0 + 1) (by omega) (by omega) (k + 1) (by omega)]
          have e2 : mvTry (t :: ts) (t :: ts)[0] a (((0 : Int) + 1) == 1) = mvTry (t :: ts) t a true := rfl
          rw [e2]
          cases mvTry (t :: ts) t a true with
          | some xs => rfl
          | none =>
            dsimp only
            simp only [spec_MelodyMove.l0]
            rw [if_neg (by omega)]
      · rw [if_neg hr, if_pos ?_]
        by_cases h0 : -20 ≤ a
        · rw [decide_eq_true h0, decide_eq_false (fun h => hr ⟨h0, h⟩)]
          rfl
        · rw [decide_eq_false h0]
          rfl
    · rw [if_neg hM, if_neg hM]
      simp only [spec_MelodyMove.j0]
      rw [if_pos trivial]
theorem moved_tones {a : Int} {l xs : List S74} (h : mvMove a l = (xs, true)) : ∀ t ∈ xs, tv t.f0 t.f1 = true := by
  obtain ⟨hn, s, hs⟩ := mvMove_ok h
  intro t ht
  obtain ⟨i, hi, e⟩ := List.mem_iff_getElem.1 ht
  rw [tv_ok, ← e]
  exact (hs i (by omega) hi).1
theorem moved_MV {a : Int} {l xs : List S74} (hl : l.length ≤ 24) (h : mvMove a l = (xs, true)) : MV xs = true := by
  have hn := (mvMove_ok h).1
  unfold MV
  rw [decide_eq_true (by omega), Bool.true_and, List.all_eq_true]
  exact moved_tones h
theorem rdt_at' (xs : List S74) (i : Nat) (h : i < xs.length) : rd_T74 xs (i : Int) = xs[i] := by
  simp [rd_T74, List.getD_eq_getElem?_getD, h]
theorem sameT_l0 (xs : List S74) (hb : xs.length ≤ 1048576) : ∀ (d i k : Nat), i + d = xs.length → d < k → laws_sameTones.l0 k xs xs (i : Int) = some true := by
  intro d
  induction d with
  | zero =>
    intro i k hi hk
    obtain ⟨k, rfl⟩ : ∃ m, k = m + 1 := ⟨k - 1, by omega⟩
    simp only [laws_sameTones.l0]
    rw [if_neg (by omega)]
  | succ d ih =>
    intro i k hi hk
    obtain ⟨k, rfl⟩ : ∃ m, k = m + 1 := ⟨k - 1, by omega⟩
    simp only [laws_sameTones.l0]
    rw [if_pos (by omega), if_pos (by omega), if_pos (by omega), if_neg (by simp), w1 (by omega)]
    exact ih (i + 1) k (by omega) (by omega)
theorem sameT_f (xs : List S74) (k : Nat) (hb : xs.length ≤ 1048576) (hk : xs.length < k) : laws_sameTones.f k xs xs = some true := by
  unfold laws_sameTones.f
  rw [if_pos rfl]
  simpa using sameT_l0 xs hb xs.length 0 k (by omega) hk
theorem xor_nn (a b : Int) (ha : 0 ≤ a) (ha' : a < 4611686018427387904) (hb : 0 ≤ b) (hb' : b < 4611686018427387904) : 0 ≤ Go.bits .xor .i64 a b := by
  obtain ⟨x, rfl⟩ := Int.eq_ofNat_of_zero_le ha
  obtain ⟨y, rfl⟩ := Int.eq_ofNat_of_zero_le hb
  have hx : x ^^^ y < 2 ^ 62 := Nat.xor_lt_two_pow (by omega) (by omega)
  have h1 : (BitVec.ofInt 64 (x : Int)).toNat = x := by
    rw [BitVec.ofInt_natCast, BitVec.toNat_ofNat]; exact Nat.mod_eq_of_lt (by omega)
  have h2 : (BitVec.ofInt 64 (y : Int)).toNat = y := by
    rw [BitVec.ofInt_natCast, BitVec.toNat_ofNat]; exact Nat.mod_eq_of_lt (by omega)
  have e : Go.bits .xor .i64 (x : Int) (y : Int) = IntKind.i64.wrap (((x ^^^ y : Nat)) : Int) := by
    show IntKind.i64.wrap ((BitVec.ofInt 64 (x : Int) ^^^ BitVec.ofInt 64 (y : Int)).toNat : Int) = _
    rw [BitVec.toNat_xor, h1, h2]
  rw [e, IntWalk.i64_in _ (by omega)]
  omega
/-- A list of bytes. -/
def Bytes (l : List Int) : Prop := ∀ n ∈ l, 0 ≤ n ∧ n ≤ 255
theorem rd_byte {l : List Int} (h : Bytes l) (i : Int) (h0 : 0 ≤ i) (h1 : i < (l.length : Int)) : 0 ≤ rd l i ∧ rd l i ≤ 255 := by
  obtain ⟨n, rfl⟩ := Int.eq_ofNat_of_zero_le h0
  have hn : n < l.length := by omega
  rw [rd_at l n hn]
  exact h _ (List.getElem_mem hn)
theorem tm_bd (a n : Int) (ha : 0 ≤ a) (hn : 0 < n) : 0 ≤ Int.tmod a n ∧ Int.tmod a n < n := by
  rw [Int.tmod_eq_emod_of_nonneg ha]
  exact ⟨Int.emod_nonneg _ (by omega), Int.emod_lt_of_pos _ hn⟩
theorem td_bd (a n : Int) (ha : 0 ≤ a) (hn : 0 < n) : 0 ≤ Int.tdiv a n ∧ Int.tdiv a n ≤ a := by
  rw [Int.tdiv_eq_ediv_of_nonneg ha]
  exact ⟨Int.ediv_nonneg ha (by omega), Int.ediv_le_self _ ha⟩
theorem pick_some (l : List Int) (hl : Bytes l) (hn : l.length ≤ 2000) (p n : Int) (hp : 0 ≤ p) (hp' : p ≤ 1000000) (h1 : 1 ≤ n) (h2 : n ≤ 1000000) :
    ∃ v, 0 ≤ v ∧ v < n ∧ ∀ k, spec_l6Rd_pick.f (k + 1) l p n = some (v, p + 1) := by
  unfold spec_l6Rd_pick.f
  simp only [spec_l6Rd_pick.j0]
  rw [if_neg (show ¬ n < 1 by omega), w0 (i := p + 1) (by omega) (by omega), show p + 1 - 1 = p by omega, w0 (i := p) (by omega) (by omega)]
  by_cases hl0 : l.length = 0
  · refine ⟨0, by omega, by omega, fun k => ?_⟩
    rw [if_pos (show ((l.length : Int) == 0) = true by rw [hl0]; rfl)]
  · rw [if_neg (show ¬ (((l.length : Int) == 0) = true) from fun h => hl0 (by have := beq_iff_eq.1 h; omega))]
    have hlp : (0 : Int) < (l.length : Int) := by omega
    by_cases hpl : p < (l.length : Int)
    · obtain ⟨b0, b1⟩ := rd_byte hl p hp hpl
      rw [if_pos hpl, if_pos hp, if_neg (show ¬ n = 0 by omega), w0 (i := rd l p) (by omega) (by omega)]
      obtain ⟨t0, t1⟩ := tm_bd (rd l p) n b0 (by omega)
      exact ⟨_, t0, t1, fun _ => rfl⟩
    · rw [if_neg hpl, if_neg (show ¬ (l.length : Int) = 0 by omega), w0 (i := p * 7) (by omega) (by omega), w0 (i := p * 7 + 3) (by omega) (by omega)]
      obtain ⟨i0, i1⟩ := tm_bd p (l.length : Int) hp hlp
      obtain ⟨j0, j1⟩ := tm_bd (p * 7 + 3) (l.length : Int) (by omega) hlp
      obtain ⟨q0, q1⟩ := td_bd p (l.length : Int) hp hlp
      rw [if_pos i0, if_pos i1, if_pos j0, if_pos j1, if_neg (show ¬ n = 0 by omega)]
      obtain ⟨a0, a1⟩ := rd_byte hl _ i0 i1
      obtain ⟨b0, b1⟩ := rd_byte hl _ j0 j1
      generalize rd l (Int.tmod p (l.length : Int)) = a at a0 a1 ⊢
      generalize rd l (Int.tmod (p * 7 + 3) (l.length : Int)) = b at b0 b1 ⊢
      generalize Int.tdiv p (l.length : Int) = q at q0 q1 ⊢
      simp (disch := omega) only [w0]
      have x0 : 0 ≤ a * 131 + b * 1117 + p * 29 + q * 53 := by omega
      obtain ⟨d0, d1⟩ := td_bd (a * 131 + b * 1117 + p * 29 + q * 53) 64 x0 (by omega)
      rw [w0 (i := Int.tdiv (a * 131 + b * 1117 + p * 29 + q * 53) 64) (by omega) (by omega)]
      obtain ⟨t0, t1⟩ := tm_bd (Go.bits .xor .i64 (a * 131 + b * 1117 + p * 29 + q * 53) (Int.tdiv (a * 131 + b * 1117 + p * 29 + q * 53) 64)) n (xor_nn _ _ x0 (by omega) d0 (by omega)) (by omega)
      exact ⟨_, t0, t1, fun _ => rfl⟩
/-- What a reader's pick answers. -/
def pk (l : List Int) (p n : Int) : Int := ((spec_l6Rd_pick.f 1 l p n).getD (0, 0)).1
structure Rdr (l : List Int) : Prop where
  bytes : Bytes l
  len : l.length ≤ 2000
theorem pk_f {l : List Int} (h : Rdr l) (p n : Int) (k : Nat) (hp : 0 ≤ p) (hp' : p ≤ 1000000) (h1 : 1 ≤ n) (h2 : n ≤ 1000000) (hk : 1 ≤ k) : spec_l6Rd_pick.f k l p n = some (pk l p n, p + 1) := by
  obtain ⟨v, _, _, hv⟩ := pick_some l h.bytes h.len p n hp hp' h1 h2
  unfold pk
  rw [hv 0]
  obtain ⟨k, rfl⟩ : ∃ m, k = m + 1 := ⟨k - 1, by omega⟩
  rw [hv k]
  rfl
theorem pk_bd {l : List Int} (h : Rdr l) (p n : Int) (hp : 0 ≤ p) (hp' : p ≤ 1000000) (h1 : 1 ≤ n) (h2 : n ≤ 1000000) : 0 ≤ pk l p n ∧ pk l p n < n := by
  obtain ⟨v, h3, h4, hv⟩ := pick_some l h.bytes h.len p n hp hp' h1 h2
  unfold pk
  rw [hv 0]
  exact ⟨h3, h4⟩
theorem open_f (l : List Int) (hl : Bytes l) : ∃ s, spec_l6Open.f l = some (s, 0) ∧ Rdr s := by
  unfold spec_l6Open.f
  by_cases h : (l.length : Int) > 2000
  · rw [if_pos h, if_pos (by omega)]
    exact ⟨_, rfl, ⟨fun n hn => hl n (List.mem_of_mem_take hn), by simp; omega⟩⟩
  · rw [if_neg h]
    exact ⟨_, rfl, ⟨hl, by omega⟩⟩
theorem bytes_of {l : List Int} (h : ∀ n ∈ l, (Lit.int .u8 n).wf = true) : Bytes l := fun n hn => by
  have := h n hn
  simp [Lit.wf, IntKind.min, IntKind.max, IntKind.signed, IntKind.bits] at this
  omega
theorem letter_f (a : Int) : spec_l1Letter.f a = some (Int.tmod a 7) := rfl
theorem clamp_bd (a b x : Int) (h : a ≤ b) : a ≤ mx a (mn b x) ∧ mx a (mn b x) ≤ b := by
  unfold mx mn
  constructor <;> (repeat' split) <;> omega
theorem mel_end (l : List Int) (h : Rdr l) (acc : List S74) (n : Nat) (x p : Int) (hn : n ≤ 20) (ha : acc.length = n) (hp : 0 ≤ p) (hp' : p ≤ 100000) :
    ∃ m q, m.length = n ∧ p ≤ q ∧ q ≤ p + 2 ∧ ∀ k, 2 ≤ k → spec_l91Melody.l0 k acc (n : Int) x (n : Int) l p = some (m, q) := by
  by_cases h0 : n = 0
  · refine ⟨acc, p, ha, by omega, by omega, fun k hk => ?_⟩
    obtain ⟨k, rfl⟩ : ∃ m, k = m + 1 := ⟨k - 1, by omega⟩
    simp only [spec_l91Melody.l0]
    rw [if_neg (by omega), if_neg (by omega)]
  · by_cases h1 : pk l p 50 = 0
    · obtain ⟨v0, v1⟩ := pk_bd h (p + 1) 3 (by omega) (by omega) (by omega) (by omega)
      refine ⟨acc.set (0 : Int).toNat ⟨rd ([-1, 21, 20] : List Int) (pk l (p + 1) 3), (rd_T74 acc 0).f1⟩, p + 1 + 1, by simp [ha], by omega, by omega, fun k hk => ?_⟩
      obtain ⟨k, rfl⟩ : ∃ m, k = m + 1 := ⟨k - 1, by omega⟩
      simp only [spec_l91Melody.l0]
      rw [if_neg (by omega), if_pos (by omega), pk_f h p 50 k (by omega) (by omega) (by omega) (by omega) (by omega)]
      simp only [Option.bind_some]
      rw [if_pos h1, pk_f h (p + 1) 3 k (by omega) (by omega) (by omega) (by omega) (by omega)]
      simp only [Option.bind_some]
      rw [if_pos v0, if_pos (by simpa using v1), if_pos (by omega)]
    · by_cases h2 : pk l p 50 = 1
      · have e : wrap64 ((n : Int) - 1) = ((n - 1 : Nat) : Int) := by rw [w0 (by omega) (by omega)]; omega
        refine ⟨acc.set (((n - 1 : Nat) : Int)).toNat ⟨(rd_T74 acc ((n - 1 : Nat) : Int)).f0, true⟩, p + 1, by simp [ha], by omega, by omega, fun k hk => ?_⟩
        obtain ⟨k, rfl⟩ : ∃ m, k = m + 1 := ⟨k - 1, by omega⟩
        simp only [spec_l91Melody.l0]
        rw [if_neg (by omega), if_pos (by omega), pk_f h p 50 k (by omega) (by omega) (by omega) (by omega) (by omega)]
        simp only [Option.bind_some]
        rw [if_neg h1, if_pos h2, e, if_pos (by omega), if_pos (by omega)]
      · refine ⟨acc, p + 1, ha, by omega, by omega, fun k hk => ?_⟩
        obtain ⟨k, rfl⟩ : ∃ m, k = m + 1 := ⟨k - 1, by omega⟩
        simp only [spec_l91Melody.l0]
        rw [if_neg (by omega), if_pos (by omega), pk_f h p 50 k (by omega) (by omega) (by omega) (by omega) (by omega)]
        simp only [Option.bind_some]
        rw [if_neg h1, if_neg h2]
theorem mel_l0 (l : List Int) (h : Rdr l) (n : Nat) (hn : n ≤ 20) : ∀ (d i : Nat) (acc : List S74) (x p : Int), i + d = n → acc.length = i → 0 ≤ x → x ≤ 20 → 0 ≤ p → p ≤ 10000 + 2 * i →
    ∃ m q, m.length = n ∧ p ≤ q ∧ q ≤ p + 2 * d + 2 ∧ ∀ k, d + 2 ≤ k → spec_l91Melody.l0 k acc (n : Int) x (i : Int) l p = some (m, q) := by
  intro d
  induction d with
  | zero =>
    intro i acc x p hi ha h0 h1 hp hp'
    have e : i = n := by omega
    subst e
    obtain ⟨m, q, hm, q0, q1, hq⟩ := mel_end l h acc i x p hn ha hp (by omega)
    exact ⟨m, q, hm, q0, by omega, fun k hk => hq k (by omega)⟩
  | succ d ih =>
    intro i acc x p hi ha h0 h1 hp hp'
    by_cases hx : Int.tmod x 7 = 2
    · obtain ⟨v0, v1⟩ := pk_bd h (p + 1) 5 (by omega) (by omega) (by omega) (by omega)
      obtain ⟨c0, c1⟩ := clamp_bd 1 15 (x + pk l (p + 1) 5 - 2) (by omega)
      obtain ⟨m, q, hm, q0, q1, hq⟩ := ih (i + 1) (acc ++ [⟨x, pk l p 3 == 0⟩]) (mx 1 (mn 15 (x + pk l (p + 1) 5 - 2))) (p + 1 + 1) (by omega) (by simp [ha]) (by omega) (by omega) (by omega) (by omega)
      refine ⟨m, q, hm, by omega, by omega, fun k hk => ?_⟩
      obtain ⟨k, rfl⟩ : ∃ m, k = m + 1 := ⟨k - 1, by omega⟩
      simp only [spec_l91Melody.l0]
      rw [if_pos (by omega), letter_f]
      simp only [Option.bind_some]
      rw [if_pos hx, pk_f h p 3 k (by omega) (by omega) (by omega) (by omega) (by omega)]
      simp only [Option.bind_some]
      rw [if_pos (by omega), pk_f h (p + 1) 5 k (by omega) (by omega) (by omega) (by omega) (by omega)]
      simp only [Option.bind_some]
      rw [w1 (by omega), w0 (i := x + pk l (p + 1) 5) (by omega) (by omega), w0 (i := x + pk l (p + 1) 5 - 2) (by omega) (by omega)]
      exact hq k (by omega)
    · obtain ⟨v0, v1⟩ := pk_bd h p 5 (by omega) (by omega) (by omega) (by omega)
      obtain ⟨c0, c1⟩ := clamp_bd 1 15 (x + pk l p 5 - 2) (by omega)
      obtain ⟨m, q, hm, q0, q1, hq⟩ := ih (i + 1) (acc ++ [⟨x, false⟩]) (mx 1 (mn 15 (x + pk l p 5 - 2))) (p + 1) (by omega) (by simp [ha]) (by omega) (by omega) (by omega) (by omega)
      refine ⟨m, q, hm, by omega, by omega, fun k hk => ?_⟩
      obtain ⟨k, rfl⟩ : ∃ m, k = m + 1 := ⟨k - 1, by omega⟩
      simp only [spec_l91Melody.l0]
      rw [if_pos (by omega), letter_f]
      simp only [Option.bind_some]
      rw [if_neg hx, if_pos (by omega), pk_f h p 5 k (by omega) (by omega) (by omega) (by omega) (by omega)]
      simp only [Option.bind_some]
      rw [w1 (by omega), w0 (i := x + pk l p 5) (by omega) (by omega), w0 (i := x + pk l p 5 - 2) (by omega) (by omega)]
      exact hq k (by omega)
theorem mel_d (l : List Int) (h : Rdr l) (p : Int) (a : Nat) (ha : a ≤ 20) (hp : 0 ≤ p) (hp' : p ≤ 5000) : ∃ m q, m.length ≤ a ∧ p ≤ q ∧ q ≤ p + 100 ∧ ∀ k, 40 ≤ k → spec_l91Melody.f k l p (a : Int) = some (m, q) := by
  obtain ⟨v0, v1⟩ := pk_bd h p ((a : Int) + 1) (by omega) (by omega) (by omega) (by omega)
  obtain ⟨u0, u1⟩ := pk_bd h (p + 1) 5 (by omega) (by omega) (by omega) (by omega)
  obtain ⟨n, hn⟩ := Int.eq_ofNat_of_zero_le v0
  obtain ⟨m, q, hm, q0, q1, hq⟩ := mel_l0 l h n (by omega) n 0 [] (4 + pk l (p + 1) 5) (p + 1 + 1) (by omega) rfl (by omega) (by omega) (by omega) (by omega)
  refine ⟨m, q, by omega, by omega, by omega, fun k hk => ?_⟩
  unfold spec_l91Melody.f
  rw [w0 (i := (a : Int) + 1) (by omega) (by omega), pk_f h p ((a : Int) + 1) k (by omega) (by omega) (by omega) (by omega) (by omega)]
  simp only [Option.bind_some]
  rw [pk_f h (p + 1) 5 k (by omega) (by omega) (by omega) (by omega) (by omega)]
  simp only [Option.bind_some]
  rw [w0 (i := 4 + pk l (p + 1) 5) (by omega) (by omega), hn]
  exact hq k (by omega)
theorem idx10_miss : ∀ l : List UInt8, ¬ (10 : UInt8) ∈ l → Lib.index l [10] = -1
  | [], _ => rfl
  | b :: l, h => by
    have ih := idx10_miss l (fun x => h (List.mem_cons_of_mem _ x))
    have hb : (10 : UInt8) ≠ b := fun e => h (by rw [e]; exact List.mem_cons_self ..)
    unfold Lib.index
    rw [if_neg (by simpa [List.isPrefixOf] using hb), ih]
    rfl
theorem idx10_hit : ∀ (l r : List UInt8), ¬ (10 : UInt8) ∈ l → Lib.index (l ++ 10 :: r) [10] = (l.length : Int)
  | [], r, _ => by
    show Lib.index (10 :: r) [10] = 0
    unfold Lib.index
    rw [if_pos (by simp [List.isPrefixOf])]
  | b :: l, r, h => by
    have ih := idx10_hit l r (fun x => h (List.mem_cons_of_mem _ x))
    have hb : (10 : UInt8) ≠ b := fun e => h (by rw [e]; exact List.mem_cons_self ..)
    rw [List.cons_append]
    unfold Lib.index
    rw [if_neg (by simpa [List.isPrefixOf] using hb), ih, if_neg (by simp), List.length_cons]
    omega
theorem cut_hit (l r : List UInt8) (h : ¬ (10 : UInt8) ∈ l) : Lib.cut (l ++ 10 :: r) [10] = (l, r, true) := by
  have e : (l ++ 10 :: r).drop (l.length + [(10 : UInt8)].length) = r := by
    rw [show l.length + [(10 : UInt8)].length = l.length + 1 from rfl, List.drop_append, List.drop_eq_nil_of_le (by omega), List.nil_append, show l.length + 1 - l.length = 1 by omega]
    rfl
  unfold Lib.cut
  rw [idx10_hit l r h, if_pos (by omega), Int.toNat_natCast, e, List.take_append_of_le_length (Nat.le_refl _), List.take_length]
theorem execGo_line {step : List S74 → ByteArray → Option (List S74 × ByteArray)} {k : Nat} {m m' : List S74} {out o : ByteArray} {l r : List UInt8} (hl : ¬ (10 : UInt8) ∈ l) (hs : step m ⟨l.toArray⟩ = some (m', o)) (hz : out.size + o.size < 1000000) : execGo step (k + 1) m out (l ++ 10 :: r) = execGo step k m' (out ++ (o ++ (⟨#[10]⟩ : ByteArray))) r := by
  rw [execGo, cut_hit l r hl]
  dsimp only
  rw [if_pos rfl, hs, Option.bind_some, if_pos hz]
theorem execGo_end {step : List S74 → ByteArray → Option (List S74 × ByteArray)} {k : Nat} {m : List S74} {out : ByteArray} : execGo step (k + 1) m out [] = some (m, out) := by
  rw [execGo, show Lib.cut [] [10] = ([], [], false) from rfl]
  rfl
theorem split_join' (ws : List ByteArray) (h0 : ws ≠ []) (h : ∀ x ∈ ws, ¬ (32 : UInt8) ∈ x.data.toList) : splitS ⟨(Lib.join (ws.map (·.data.toList)) [32]).toArray⟩ = ws := splitW_join ws h0 h
theorem join_two (x : List UInt8) (ys : List (List UInt8)) (h : ys ≠ []) : Lib.join (x :: ys) [32] = x ++ 32 :: Lib.join ys [32] := by
  cases ys with
  | nil => exact absurd rfl h
  | cons y r =>
    rw [Lib.join_cons, Lib.join_cons]
    simp [Lib.joinTail]
theorem join_no10 : ∀ ys : List (List UInt8), (∀ y ∈ ys, ¬ (10 : UInt8) ∈ y) → ¬ (10 : UInt8) ∈ Lib.join ys [32]
  | [], _ => by simp [Lib.join]
  | [y], h => by
    rw [Lib.join_one]
    exact h y (List.mem_singleton.2 rfl)
  | x :: y :: r, h => by
    rw [join_two x (y :: r) (by simp)]
    intro hm
    rcases List.mem_append.1 hm with hm | hm
    · exact h x (List.mem_cons_self ..) hm
    · rcases List.mem_cons.1 hm with hm | hm
      · exact absurd hm (by decide)
      · exact join_no10 (y :: r) (fun z hz => h z (List.mem_cons_of_mem _ hz)) hm
theorem ix_mel (xs : List ByteArray) : cmdT.findIdx? (cmdM ((⟨#[109, 101, 108, 111, 100, 121]⟩ : ByteArray) :: xs)) = some 0 := by
  simp [cmdT, List.findIdx?_cons, cmdM]
theorem ix_show : cmdT.findIdx? (cmdM [(⟨#[115, 104, 111, 119]⟩ : ByteArray)]) = some 3 := by decide +kernel
theorem split_show : splitS (⟨#[115, 104, 111, 119]⟩ : ByteArray) = [⟨#[115, 104, 111, 119]⟩] := by decide +kernel
theorem mono_ux {α : Type} {f : Nat → Option α} (h : ∀ j, LeO (f j) (f (j + 1))) {j : Nat} : ∀ (k : Nat) (r : α), f j = some r → f (j + k) = some r
  | 0, _, e => e
  | k + 1, r, e => h (j + k) r (mono_ux h k r e)
theorem mono_to {α : Type} {f : Nat → Option α} (h : ∀ j, LeO (f j) (f (j + 1))) {j K : Nat} {r : α} (hj : j ≤ K) (e : f j = some r) : f K = some r := by
  have := mono_ux h (K - j) r e
  rwa [show j + (K - j) = K by omega] at this
theorem dig_all : ∀ n, n < 25 → (laws_digits.f 5 ((n : Nat) : Int)).map (·.data) = some (decS n).data := by decide +kernel
theorem dig_f (n : Nat) (h : n < 25) (k : Nat) (hk : 5 ≤ k) : laws_digits.f k (n : Int) = some (decS n) := by
  have e := dig_all n h
  cases hs : laws_digits.f 5 ((n : Nat) : Int) with
  | none => rw [hs] at e; simp at e
  | some v =>
    rw [hs] at e
    have e2 : v = decS n := ByteArray.ext (Option.some.inj e)
    rw [e2] at hs
    exact mono_to (f := fun k => laws_digits.f k (n : Int)) (fun j => laws_digits.mono _ j) hk hs
theorem end_f (n : Nat) (h : n < 25) (k : Nat) (hk : 5 ≤ k) : laws_endLine.f k (n : Int) 0 = some (endTxt (decS n) (decS 0)) := by
  have h1 := decS_size n
  have h2 := decS_size 0
  unfold laws_endLine.f
  rw [dig_f n h k hk, Option.bind_some, show (0 : Int) = ((0 : Nat) : Int) from rfl, dig_f 0 (by decide) k hk, Option.bind_some, if_pos (by omega)]
theorem exec_end (out : ByteArray) (n : Nat) : execTxt out n = out ++ endTxt (decS n) (decS 0) := by
  apply ByteArray.ext
  simp [execTxt, endTxt, ByteArray.data_append, Array.append_assoc]
theorem end_size (n : Nat) : (endTxt (decS n) (decS 0)).size ≤ 40 := by
  have h1 := decS_size n
  have h2 := decS_size 0
  unfold endTxt
  simp only [ByteArray.size_append]
  have e1 : (⟨#[116, 111, 110, 101, 115, 32]⟩ : ByteArray).size = 6 := rfl
  have e2 : (⟨#[32, 101, 110, 116, 114, 105, 101, 115, 32]⟩ : ByteArray).size = 9 := rfl
  have e3 : (⟨#[10]⟩ : ByteArray).size = 1 := rfl
  omega
theorem ttx_no10a : ∀ m, m < 21 → ∀ b : Bool, ¬ (10 : UInt8) ∈ ((impl_Tone_text.f ((m : Nat) : Int) b).getD ⟨#[]⟩).data.toList := by decide +kernel
theorem ttx_no10 {t : S74} (h : tvv t = true) : ¬ (10 : UInt8) ∈ (ttx t).data.toList := by
  obtain ⟨a, b⟩ := t
  have hb := tv_bd (show tv a b = true from h)
  obtain ⟨m, rfl⟩ := Int.eq_ofNat_of_zero_le hb.1
  exact ttx_no10a m (by omega) b
def sgT (a : Int) : ByteArray := (laws_signed.f 8 a).getD ⟨#[]⟩
theorem sg_all : ∀ n, n < 41 → (laws_signed.f 8 ((n : Nat) - 20 : Int)).isSome = true ∧ impl_wordNumber.f 8 (sgT ((n : Nat) - 20 : Int)) = some ((n : Nat) - 20 : Int) ∧ ¬ (10 : UInt8) ∈ (sgT ((n : Nat) - 20 : Int)).data.toList ∧ ¬ (32 : UInt8) ∈ (sgT ((n : Nat) - 20 : Int)).data.toList ∧ (sgT ((n : Nat) - 20 : Int)).size ≤ 3 := by decide +kernel
theorem sg_ok {a : Int} (h0 : -20 ≤ a) (h1 : a ≤ 20) : laws_signed.f 8 a = some (sgT a) ∧ impl_wordNumber.f 8 (sgT a) = some a ∧ ¬ (10 : UInt8) ∈ (sgT a).data.toList ∧ ¬ (32 : UInt8) ∈ (sgT a).data.toList ∧ (sgT a).size ≤ 3 := by
  obtain ⟨n, hn⟩ := Int.eq_ofNat_of_zero_le (show 0 ≤ a + 20 by omega)
  obtain rfl : a = ((n : Nat) - 20 : Int) := by omega
  obtain ⟨q0, q1⟩ := sg_all n (by omega)
  obtain ⟨v, hv⟩ := Option.isSome_iff_exists.1 q0
  exact ⟨by rw [sgT, hv]; rfl, q1⟩
theorem mv_rng {a : Int} {m xs : List S74} (h0 : m.length ≠ 0) (h : mvMove a m = (xs, true)) : -20 ≤ a ∧ a ≤ 20 := by
  cases m with
  | nil => exact absurd rfl h0
  | cons t ts =>
    unfold mvMove at h
    by_cases hr : -20 ≤ a ∧ a ≤ 20
    · exact hr
    · dsimp only at h
      rw [if_neg hr] at h
      exact absurd h (by simp)
theorem mvMove_false {a : Int} {m xs : List S74} (h : mvMove a m = (xs, false)) : xs = [] := by
  unfold mvMove at h
  split at h
  · exact absurd h (by simp)
  · split at h
    · split at h
      · exact absurd h (by simp)
      · split at h
        · exact absurd h (by simp)
        · exact (Prod.mk.inj h).1.symm
    · exact (Prod.mk.inj h).1.symm
def mvB : ByteArray := ⟨#[109, 111, 118, 101]⟩
theorem exec_move (m xs : List S74) (a : Int) (hM : MV m = true) (h0 : m.length ≠ 0) (hx : mvMove a m = (xs, true)) :
    impl_Execute.f 2500 (((((⟨#[109, 101, 108, 111, 100, 121, 32]⟩ : ByteArray) ++ mjoin (m.map ttx)) ++ (⟨#[10, 109, 111, 118, 101, 32]⟩ : ByteArray)) ++ sgT a) ++ (⟨#[10, 115, 104, 111, 119, 10]⟩ : ByteArray)) = some ((((⟨#[111, 107, 10, 111, 107, 10, 109, 101, 108, 111, 100, 121, 32]⟩ : ByteArray) ++ mjoin (xs.map ttx)) ++ (⟨#[10]⟩ : ByteArray)) ++ endTxt (decS m.length) (decS 0)) := by
  obtain ⟨a0, a1⟩ := mv_rng h0 hx
  obtain ⟨g0, g1, g2, g3, g4⟩ := sg_ok a0 a1
  have ha : m.all tvv = true := by unfold MV at hM; rw [Bool.and_eq_true] at hM; exact hM.2
  have hl := MV_len hM
  have hX : MV xs = true := moved_MV hl hx
  have hxl : xs.length = m.length := (mvMove_ok hx).1
  have hT := mjoin_size hM
  have hT' := mjoin_size hX
  have hne : m.map ttx ≠ [] := by intro e; have := congrArg List.length e; rw [List.length_map, List.length_nil] at this; exact h0 this
  have hnm : ∀ x ∈ m.map ttx, ¬ (32 : UInt8) ∈ x.data.toList ∧ ¬ (10 : UInt8) ∈ x.data.toList := by
    intro x hx
    obtain ⟨t, ht, rfl⟩ := List.mem_map.1 hx
    exact ⟨(ttx_facts (List.all_eq_true.1 ha t ht)).2, ttx_no10 (List.all_eq_true.1 ha t ht)⟩
  have s1 : (⟨#[109, 101, 108, 111, 100, 121, 32]⟩ : ByteArray).size = 7 := rfl
  have s2 : (⟨#[10, 109, 111, 118, 101, 32]⟩ : ByteArray).size = 6 := rfl
  have s3 : (⟨#[10, 115, 104, 111, 119, 10]⟩ : ByteArray).size = 6 := rfl
  unfold impl_Execute.f
  rw [if_pos (by simp only [ByteArray.size_append]; omega)]
  have e : (((((⟨#[109, 101, 108, 111, 100, 121, 32]⟩ : ByteArray) ++ mjoin (m.map ttx)) ++ (⟨#[10, 109, 111, 118, 101, 32]⟩ : ByteArray)) ++ sgT a) ++ (⟨#[10, 115, 104, 111, 119, 10]⟩ : ByteArray)).data.toList = Lib.join ((melB :: m.map ttx).map (·.data.toList)) [32] ++ 10 :: (Lib.join ([mvB, sgT a].map (·.data.toList)) [32] ++ 10 :: (([115, 104, 111, 119] : List UInt8) ++ 10 :: [])) := by
    rw [List.map_cons, join_two _ _ (by simpa using hne), List.map_cons, join_two _ _ (by simp), List.map_cons, List.map_nil, Lib.join_one]
    simp [ByteArray.data_append, mjoin, melB, mvB]
  have n1 : ¬ (10 : UInt8) ∈ Lib.join ((melB :: m.map ttx).map (·.data.toList)) [32] := by
    refine join_no10 _ (fun y hy => ?_)
    obtain ⟨x, hx, rfl⟩ := List.mem_map.1 hy
    rcases List.mem_cons.1 hx with rfl | hx
    · decide
    · exact (hnm x hx).2
  have n2 : ¬ (10 : UInt8) ∈ Lib.join ([mvB, sgT a].map (·.data.toList)) [32] := by
    refine join_no10 _ (fun y hy => ?_)
    obtain ⟨x, hx, rfl⟩ := List.mem_map.1 hy
    rcases List.mem_cons.1 hx with rfl | hx
    · decide
    · obtain rfl := List.mem_singleton.1 hx
      exact g2
  have p1 : splitS ⟨(Lib.join ((melB :: m.map ttx).map (·.data.toList)) [32]).toArray⟩ = melB :: m.map ttx := by
    refine split_join' _ (by simp) (fun x hx => ?_)
    rcases List.mem_cons.1 hx with rfl | hx
    · decide
    · exact (hnm x hx).1
  have p2 : splitS ⟨(Lib.join ([mvB, sgT a].map (·.data.toList)) [32]).toArray⟩ = [mvB, sgT a] := by
    refine split_join' _ (by simp) (fun x hx => ?_)
    rcases List.mem_cons.1 hx with rfl | hx
    · decide
    · obtain rfl := List.mem_singleton.1 hx
      exact g3
  have z1 : (⟨(Lib.join ((melB :: m.map ttx).map (·.data.toList)) [32]).toArray⟩ : ByteArray).size < 4294967281 := by
    show (Lib.join _ _).toArray.size < _
    rw [List.size_toArray, List.map_cons, join_two _ _ (by simpa using hne), List.length_append, List.length_cons]
    have : (Lib.join ((m.map ttx).map (·.data.toList)) [32]).length ≤ 96 := hT
    have : melB.data.toList.length = 6 := rfl
    omega
  have z2 : (⟨(Lib.join ([mvB, sgT a].map (·.data.toList)) [32]).toArray⟩ : ByteArray).size < 4294967281 := by
    show (Lib.join _ _).toArray.size < _
    rw [List.size_toArray, List.map_cons, join_two _ _ (by simp), List.map_cons, List.map_nil, Lib.join_one, List.length_append, List.length_cons]
    have : (sgT a).data.toList.length ≤ 3 := g4
    have : mvB.data.toList.length = 4 := rfl
    omega
  have ok1 : (saidB true).size = 2 := rfl
  have st1 : stepM 2500 [] ⟨(Lib.join ((melB :: m.map ttx).map (·.data.toList)) [32]).toArray⟩ = some (m, saidB true) := by
    unfold stepM
    rw [if_pos z1, p1, if_pos (show cmdT.findIdx? (cmdM (melB :: m.map ttx)) = some 0 from ix_mel _)]
    have hfrom : impl_MelodyFrom.f 2500 (joinT (m.map ttx)) = some (m, true) := by
      unfold impl_MelodyFrom.f mfRes
      have hn : ¬ (joinT (m.map ttx)).toList = [] := by
        rw [ByteArray.toList_eq]
        show ¬ Lib.join ((m.map ttx).map (·.data.toList)) [32] = []
        cases m with
        | nil => exact absurd rfl h0
        | cons t ts =>
          rw [List.map_cons, List.map_cons, Lib.join_cons]
          intro e2
          exact (ttx_facts (List.all_eq_true.1 ha t (List.mem_cons_self ..))).1 (List.append_eq_nil_iff.1 e2).1
      have hsp : splitW (joinT (m.map ttx)) = m.map ttx := splitW_join (m.map ttx) hne (fun x hx => (hnm x hx).1)
      rw [if_pos (show (joinT (m.map ttx)).size < 4294967281 from Nat.lt_of_le_of_lt hT (by decide)), if_neg hn, hsp, mfGo_ttx m [] ha (by simp; omega)]
      rfl
    rw [List.tail_cons, hfrom]
    rfl
  have st2 : stepM 2500 m ⟨(Lib.join ([mvB, sgT a].map (·.data.toList)) [32]).toArray⟩ = some (xs, saidB true) := by
    unfold stepM
    have hix : cmdT.findIdx? (cmdM [mvB, sgT a]) = some 2 := by kernel_rfl
    have hw : impl_wordNumber.f 2500 (sgT a) = some a := mono_to (f := fun k => impl_wordNumber.f k (sgT a)) (fun j => impl_wordNumber.mono _ j) (show 8 ≤ 2500 by decide) g1
    rw [if_pos z2, p2, hix, if_neg (by decide), if_pos rfl]
    show (impl_wordNumber.f 2500 (sgT a)).bind _ = _
    rw [hw, Option.bind_some, mmi_f m a 2500 (by decide), Option.bind_some]
    unfold SM
    rw [if_pos hM, hx]
    rfl
  have st3 : stepM 2500 xs ⟨([115, 104, 111, 119] : List UInt8).toArray⟩ = some (xs, melSB ++ mjoin (xs.map ttx)) := by
    unfold stepM
    rw [if_pos (by decide), show splitS (⟨([115, 104, 111, 119] : List UInt8).toArray⟩ : ByteArray) = [⟨#[115, 104, 111, 119]⟩] from split_show, ix_show, if_neg (by decide), if_neg (by decide), if_pos rfl, mti_f xs 2500 (by decide), if_pos hX, Option.bind_some, if_pos (by omega)]
    unfold showT
    rw [if_neg (by omega)]
  have sB : (melSB ++ mjoin (xs.map ttx)).size ≤ 103 := by
    rw [ByteArray.size_append]
    have : melSB.size = 7 := rfl
    omega
  have sN : (⟨#[10]⟩ : ByteArray).size = 1 := rfl
  have sE : (⟨#[]⟩ : ByteArray).size = 0 := rfl
  rw [e, show (2500 : Nat) = 2499 + 1 from rfl]
  rw [execGo_line n1 st1 (by rw [ok1, sE]; decide), show (2499 : Nat) = 2498 + 1 from rfl, execGo_line n2 st2 (by simp only [ByteArray.size_append]; omega), show (2498 : Nat) = 2497 + 1 from rfl, execGo_line (by decide) st3 (by simp only [ByteArray.size_append] at sB ⊢; omega), show (2497 : Nat) = 2496 + 1 from rfl, execGo_end, Option.bind_some]
  dsimp only
  rw [if_pos ⟨by omega, by simp only [ByteArray.size_append] at sB ⊢; omega⟩, exec_end, hxl]
  congr 1
  all_goals (apply ByteArray.ext; simp [ByteArray.data_append, Array.append_assoc, saidB, okB, melSB])
theorem FnExecuteMove : ∀ (l0 : List Int), l0.length ≤ maxLen → l0.length * 1 ≤ 140737488351232 → (∀ n ∈ l0, (Lit.int .u8 n).wf = true) → ∃ k, laws_FnExecuteMove.f k l0 = some true := by
  intro l0 z1 z2 hw
  refine ⟨2503, ?_⟩
  unfold laws_FnExecuteMove.f
  by_cases h : (l0.length : Int) > 1048576
  · rw [if_pos h]
  · rw [if_neg h]
    obtain ⟨o, ho, hR⟩ := open_f l0 (bytes_of hw)
    obtain ⟨m, q, hm, q0, q1, hq⟩ := mel_d o hR 0 5 (by omega) (by omega) (by omega)
    obtain ⟨a, hd⟩ : ∃ a, spec_DrawMelodyMove.f 2503 l0 = some (m, a) := by
      unfold spec_DrawMelodyMove.f
      rw [ho]
      simp only [Option.bind_some]
      have hq' := hq 2503 (by omega)
      rw [show ((5 : Nat) : Int) = 5 from rfl] at hq'
      rw [hq']
      simp only [Option.bind_some]
      rw [pk_f hR q 20 2503 (by omega) (by omega) (by omega) (by omega) (by omega)]
      simp only [Option.bind_some]
      by_cases h0 : pk o q 20 = 0
      · have hb := pk_bd hR (q + 1) 3 (by omega) (by omega) (by omega) (by omega)
        rw [if_pos h0, pk_f hR (q + 1) 3 2503 (by omega) (by omega) (by omega) (by omega) (by omega)]
        simp only [Option.bind_some]
        rw [if_pos hb.1, if_pos (by simpa using hb.2)]
        exact ⟨_, rfl⟩
      · have hb := pk_bd hR (q + 1) 10 (by omega) (by omega) (by omega) (by omega)
        rw [if_neg h0, pk_f hR (q + 1) 10 2503 (by omega) (by omega) (by omega) (by omega) (by omega)]
        simp only [Option.bind_some]
        rw [if_pos hb.1, if_pos (by simpa using hb.2)]
        exact ⟨_, rfl⟩
    rw [hd, Option.bind_some, mmi_f m a 2503 (by omega), Option.bind_some, mms_f m a (by omega) 2503 (by omega), Option.bind_some]
    dsimp only
    obtain ⟨xs, ok, hx⟩ : ∃ xs ok, SM m a = (xs, ok) := ⟨_, _, rfl⟩
    have hxl : xs.length ≤ 1000 := by
      unfold SM at hx
      by_cases hM : MV m = true
      · rw [if_pos hM] at hx
        cases ok with
        | true => rw [(mvMove_ok hx).1]; omega
        | false => rw [mvMove_false hx]; simp
      · rw [if_neg hM] at hx
        rw [← (Prod.mk.inj hx).1]; simp
    rw [hx]
    dsimp only
    rw [if_neg (by simp), sameT_f xs 2503 (by omega) (by omega), Option.bind_some, if_pos rfl]
    cases ok with
    | false =>
      simp only [laws_FnExecuteMove.j0]
      rw [if_pos (by rfl), if_pos (by rfl), sameT_f xs 2502 (by omega) (by omega), Option.bind_some]
    | true =>
      have hM : MV m = true := by
        unfold SM at hx
        by_cases hM : MV m = true
        · exact hM
        · rw [if_neg hM] at hx
          exact absurd hx (by simp)
      have hx2 : mvMove a m = (xs, true) := by
        unfold SM at hx
        rwa [if_pos hM] at hx
      simp only [laws_FnExecuteMove.j0]
      rw [if_neg (by decide)]
      by_cases h0 : m.length = 0
      · have e2 : xs.length = 0 := by rw [(mvMove_ok hx2).1, h0]
        rw [if_pos (by omega)]
        simp only [laws_FnExecuteMove.j1]
        rw [if_pos trivial, e2]
        rfl
      · obtain ⟨a0, a1⟩ := mv_rng h0 hx2
        obtain ⟨g0, g1, g2, g3, g4⟩ := sg_ok a0 a1
        have hX : MV xs = true := moved_MV (MV_len hM) hx2
        have hT := mjoin_size hM
        have hT' := mjoin_size hX
        have hl := MV_len hM
        have hs : laws_signed.f 2501 a = some (sgT a) := mono_to (f := fun k => laws_signed.f k a) (fun j => laws_signed.mono _ j) (show 8 ≤ 2501 by decide) g0
        have hex : impl_Execute.f 2501 _ = some _ := impl_Execute.mono _ 2500 _ (exec_move m xs a hM h0 hx2)
        have s1 : (⟨#[109, 101, 108, 111, 100, 121, 32]⟩ : ByteArray).size = 7 := rfl
        have s2 : (⟨#[10, 109, 111, 118, 101, 32]⟩ : ByteArray).size = 6 := rfl
        have s4 : (⟨#[111, 107, 10, 111, 107, 10, 109, 101, 108, 111, 100, 121, 32]⟩ : ByteArray).size = 13 := rfl
        have s5 : (⟨#[10]⟩ : ByteArray).size = 1 := rfl
        have s6 := end_size m.length
        rw [if_neg (by omega), if_neg (by omega), decide_eq_false (by omega)]
        simp only [laws_FnExecuteMove.j1]
        rw [if_neg (by decide), mti_f m 2501 (by omega), if_pos hM, Option.bind_some, if_pos (by omega), if_pos (by simp only [ByteArray.size_append]; omega), hs, Option.bind_some, if_pos (by simp only [ByteArray.size_append]; omega), if_pos (by simp only [ByteArray.size_append]; omega), hex, Option.bind_some, mti_f xs 2501 (by omega), if_pos hX, Option.bind_some, if_pos (by omega), if_pos (by simp only [ByteArray.size_append]; omega), end_f m.length (by omega) 2501 (by omega), Option.bind_some, if_pos (by simp only [ByteArray.size_append]; omega), beq_self_eq_true]

end Go.Proofs.YtjnkmckklmabcaaGreatDoor.PureFnExecuteMove
