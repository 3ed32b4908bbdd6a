-- Made by this session's gprint.py out of the translation. Not trusted: Lean checks it.
import Derived.Test.YtkdlfnakbilhjaaGreatDoorShelf
import Derived.Test.YtkdlfnakbilhjaaGreatDoorXKx0
import Derived.Test.YtkdlfnakbilhjaaGreatDoorXKx2
import Derived.Test.YtkdlfnakbilhjaaGreatDoorXKx3
import Derived.Test.YtkdlfnakbilhjaaGreatDoorXKx6
import Derived.Test.YtkdlfnakbilhjaaGreatDoorXKx8
import Derived.Test.YtkdlfnakbilhjaaGreatDoorXKx9
namespace Go.Proofs.YtkdlfnakbilhjaaGreatDoor.XK
open Go.RowKit Go.Proofs.YtkdlfnakbilhjaaGreatDoorW.PrintWords Go.Proofs.YtkdlfnakbilhjaaGreatDoorW.PrintLast Go.Proofs.YtkdlfnakbilhjaaGreatDoorW.PrintMore
attribute [local go_sem] max2_int min2_int max_two min_two max_three min_three max_four min_four   -- for this text's walks alone
set_option linter.unusedVariables false
set_option linter.unusedSimpArgs false

/-! ### MelodyText, by hand -/
theorem infoMS : (Tryz.prog.info? 9).map (fun i => (i.zero, i.size, i.bytes)) = some (some (.string ⟨#[]⟩), 1, 16) := by kernel_rfl
def ttx (t : S49) : ByteArray := (impl_Tone_text.f t.f0 t.f1).getD ⟨#[]⟩
def mjoin (xs : List ByteArray) : ByteArray := ⟨(Lib.join (xs.map (·.data.toList)) [32]).toArray⟩
def impl_MelodyText.f (n : Nat) (l0 : List S49) : Option ByteArray := (impl_MelodyValid.f n l0).bind fun ok => some (if ok = true then mjoin (l0.map ttx) else ⟨#[]⟩)
theorem text_all : ∀ m, m < 21 → ∀ b : Bool, (impl_Tone_text.f ((m : Nat) : Int) b).isSome = true ∧ ((impl_Tone_text.f ((m : Nat) : Int) b).getD ⟨#[]⟩).size ≤ 3 := by decide +kernel
theorem text_some {a : Int} {b : Bool} (h0 : 0 ≤ a) (h1 : a ≤ 20) : impl_Tone_text.f a b = some ((impl_Tone_text.f a b).getD ⟨#[]⟩) ∧ ((impl_Tone_text.f a b).getD ⟨#[]⟩).size ≤ 3 := by
 obtain ⟨m, rfl⟩ := Int.eq_ofNat_of_zero_le h0
 obtain ⟨h2, h3⟩ := text_all m (by omega) b
 obtain ⟨v, hv⟩ := Option.isSome_iff_exists.1 h2
 exact ⟨by rw [hv]; rfl, h3⟩
theorem rdMt_at (l : List S49) (i : Nat) (h : i < l.length) : rd_T49 l (i : Int) = l[i] := by
 simp [rd_T49, List.getD_eq_getElem?_getD, h]
theorem mv_tone {s : Int} {b : Bool} (h : impl_Tone_valid.f s b = some true) : 0 ≤ s ∧ s ≤ 20 := by
 unfold impl_Tone_valid.f at h
 by_cases h0 : 0 ≤ s
 ·by_cases h1 : s ≤ 20
  ·exact ⟨h0, h1⟩
  ·simp [h0, h1] at h
 ·simp [h0] at h
theorem mv_l0 : ∀ (k : Nat) (l : List S49) (i : Nat), i ≤ l.length → l.length ≤ 24 → impl_MelodyValid.l0 k l (l.length : Int) (i : Int) = some true → ∀ j (h0 : j < l.length), i ≤ j → 0 ≤ l[j].f0 ∧ l[j].f0 ≤ 20 := by
 intro k
 induction k with
 | zero => intro l i hi hl h; simp [impl_MelodyValid.l0] at h
 | succ k ih =>
  intro l i hi hl h j h0 hij
  have hlt : i < l.length := by omega
  simp only [impl_MelodyValid.l0] at h
  rw [if_pos (by omega), if_pos (by omega), if_pos (by omega), rdMt_at l i hlt] at h
  obtain ⟨v, hv, h⟩ := Option.bind_eq_some_iff.mp h
  cases v with
  | false => rw [if_neg (by decide)] at h; exact absurd h (by simp)
  | true =>
   rw [if_pos rfl, show wrap64 ((i : Int) + 1) = ((i + 1 : Nat) : Int) by unfold wrap64; omega] at h
   by_cases e : j = i
   ·subst e
    exact mv_tone hv
   ·exact ih l (i + 1) (by omega) hl h j h0 (by omega)
theorem mv_facts {k : Nat} {l : List S49} (h : impl_MelodyValid.f k l = some true) : l.length ≤ 24 ∧ ∀ t ∈ l, 0 ≤ t.f0 ∧ t.f0 ≤ 20 := by
 unfold impl_MelodyValid.f at h
 by_cases hl : (l.length : Int) > 24
 ·rw [if_pos hl] at h
  exact absurd h (by simp)
 ·rw [if_neg hl] at h
  refine ⟨by omega, fun t ht => ?_⟩
  obtain ⟨j, hj, rfl⟩ := List.getElem_of_mem ht
  exact mv_l0 k l 0 (Nat.zero_le _) (by omega) h j hj (Nat.zero_le _)
theorem mt_lens : ∀ (xs : List (List UInt8)), (∀ x ∈ xs, x.length ≤ 3) → Lib.lens xs ≤ 3 * xs.length
 | [], _ => by simp [Lib.lens]
 | x :: xs, h => by
  have ih := mt_lens xs (fun z hz => h z (List.mem_cons_of_mem _ hz))
  have := h x (List.mem_cons_self ..)
  simp only [Lib.lens, List.map_cons, List.sum_cons, List.length_cons] at ih ⊢
  omega
theorem mt_join (xs : List (List UInt8)) (h : ∀ x ∈ xs, x.length ≤ 3) : (Lib.join xs [32]).length ≤ 4 * xs.length := by
 cases xs with
 | nil => simp [Lib.join_nil]
 | cons x r =>
  have h1 := h x (List.mem_cons_self ..)
  have h2 := mt_lens r (fun z hz => h z (List.mem_cons_of_mem _ hz))
  rw [Lib.join_cons, List.length_append, Lib.joinTail_length, List.length_cons, List.length_cons, List.length_nil]
  omega
theorem mt_small (l : List S49) (h : ∀ t ∈ l, 0 ≤ t.f0 ∧ t.f0 ≤ 20) : (Lib.join ((l.map ttx).map (·.data.toList)) [32]).length ≤ 4 * l.length := by
 have := mt_join ((l.map ttx).map (·.data.toList)) (by
  intro x hx
  obtain ⟨b, hb, rfl⟩ := List.mem_map.1 hx
  obtain ⟨t, ht, rfl⟩ := List.mem_map.1 hb
  exact (text_some (h t ht).1 (h t ht).2).2)
 rw [List.length_map, List.length_map] at this
 exact this
theorem mt_strs {w : World} {g n : Nat} {xs : List ByteArray} (h : Kd.string.C w (some ⟨g, 0, none⟩) n xs) (hn : n = xs.length) (j : Nat) (x : ByteArray) (hx : xs[j]? = some x) : w.cell? ⟨g, 0 + j, none⟩ = some (.string x) := by
 obtain ⟨hj, rfl⟩ := List.getElem?_eq_some_iff.1 hx
 obtain ⟨ad, e, hc⟩ := Kd.at_string h (j : Int) (by omega) (by omega)
 obtain rfl : (⟨g, 0, none⟩ : Addr) = ad := by injection e
 rw [Int.toNat_natCast] at hc
 rw [Nat.zero_add, ← add_plain, hc]
 simp [rdOf, List.getD_eq_getElem?_getD, hj]
theorem mt_empty {α : Type} (d : Kd α) (e : Nat) {W : World} {g base : Nat} (ok : Nat → Prop) (hok : ok g) (h : W.heap[g]? = some (.cells #[] e (0, 0))) (hb : base ≤ g) : d.R e W base ok (.slice (some ⟨g, 0, none⟩) 0 0) ([] : List α) :=
 ⟨fun k hk => by
  simp [Value.ownBlock] at hk
  subst hk
  exact hok, [], ⟨by simp, .inr ⟨g, 0, #[], rfl, hb, h, Nat.le_refl _, by simp [maxLen], by simp, by simp⟩⟩, Reps.none _ _⟩
theorem mt_grown {w w1 : World} {base : Nat} {ok : Nat → Prop} {v : Value} {xs : List ByteArray} (HO : Kd.R Kd.string 9 w base ok v xs) (hg : w.grownBy w1 v.ownBlock) : ∀ {ts : List S49} {p : Option Addr}, IsList w p ts → IsList w1 p ts
 | [], _, h => h
 | t :: ts, p, h => by
  obtain ⟨g, q, rfl, hk, hr⟩ := h
  exact ⟨g, q, rfl, blk_grown hk hg (Kd.R_ne HO hk (by decide)), mt_grown HO hg hr⟩
set_option maxHeartbeats 8000000 in
set_option maxRecDepth 100000 in
theorem melText_yes (n : Nat) (A0 : Option Addr) (c0 : Nat) (l0 : List S49) (w : World) (hr0 : Kd.C k49 w A0 l0.length l0) (hc0 : l0.length ≤ c0) (hTL : TabL w) (h : impl_MelodyValid.f n l0 = some true) :
  Calls Tryz.prog 8 #[.slice A0 l0.length c0] w fun e w' => e = .returned (.string (mjoin (l0.map ttx))) ∧ Below w.heap.size w w' := by
 obtain ⟨hl, hf⟩ := mv_facts h
 have hu1 := Tryz.underlying51
 have hu2 := Tryz.underlying49
 have HR0 := am hr0
 have HC0 := am hc0
 have HTL := am hTL
 have H := am h
 have HF := am hf
 clear hr0 hc0 hTL h hf
 go_enter Tryz.func8, Tryz.ntmps8
 go_wp2_with fail
 refine (impl_MelodyValid.calls n A0 c0 l0 true _ HR0.out HC0.out H.out).mono ?_
 rintro e w1 ⟨rfl, hb⟩
 have HB1 := am hb
 have HS1 := am hb.size
 clear hb
 go_wp2_with fail
 have HZ1 := am (blk_new w1 (.cells #[] 9))
 have HB2 := am (below_alloc HB1.out (.cells #[] 9))
 refine (linked_any A0 c0 l0 _ (Kd.C_below HR0.out HB2.out) HC0.out (by omega)).mono ?_
 rintro e w2 ⟨p, rfl, hL, hb⟩
 have HB3 := am (below_step HB2.out hb)
 have HL1 := am hL
 have HZ2 := am (blk_below HZ1.out hb)
 clear hb hL HB1 HB2 HZ1
 go_wp2_with fail
 go_loopg [3, 4] l0.length (fun kq v3 v4 w' => ∃ (i : Nat) (p : Option Addr), v4 = .pointer p ∧ Aside0 (i ≤ l0.length ∧ kq = l0.length - i) ∧ Aside0 (IsList w' p (l0.drop i)) ∧ Aside0 (Kd.R Kd.string 9 w' w.heap.size (fun _ => True) v3 ((l0.take i).map ttx)) ∧ Aside0 (Below w.heap.size w w'))
 case atStart => exact ⟨0, p, rfl, ⟨by omega, by omega⟩, ⟨by simpa using HL1.out⟩, ⟨mt_empty _ _ _ trivial HZ2.out HS1.out⟩, HB3⟩
 case round =>
  obtain ⟨i, q, rfl, HI, HL, HO, HB⟩ := hrel
  clear HZ2 HL1 HB3
  by_cases hin : i < l0.length
  ·obtain ⟨t, ht⟩ : ∃ t, t = l0[i] := ⟨_, rfl⟩
   have hL := HL.out
   rw [List.drop_eq_getElem_cons hin, ← ht] at hL
   obtain ⟨g, q', rfl, hg, hR⟩ := hL
   have HT := am (HF.out t (by rw [ht]; exact List.getElem_mem hin))
   have HTT := am (text_some (b := t.f1) HT.out.1 HT.out.2).1
   have HSN := am (show (l0.take (i + 1)).map ttx = (l0.take i).map ttx ++ [ttx t] by rw [List.take_succ_eq_append_getElem hin, List.map_append, ← ht]; rfl)
   have HG0 := am hg
   have HLR := am hR
   have k0 : wr.cell? ⟨g, 0, none⟩ = some (.int .i64 t.f0) := blk_cell hg 0
   have k1 : wr.cell? ⟨g, 1, none⟩ = some (.bool t.f1) := blk_cell hg 1
   obtain ⟨tx, htx⟩ : ∃ tx, tx = ttx t := ⟨_, rfl⟩
   have HTX := am (show impl_Tone_text.f t.f0 t.f1 = some tx by rw [htx]; exact HTT.out)
   rw [← htx] at HSN
   obtain ⟨xs, hxs⟩ : ∃ xs, xs = (l0.take i).map ttx := ⟨_, rfl⟩
   have HXL := am (show xs.length ≤ 24 by rw [hxs, List.length_map, List.length_take]; omega)
   rw [← hxs] at HSN HO
   clear ht hg hR htx hxs HTT HL
   go_wp2_with fail
   refine (impl_Tone_text.calls t.f0 t.f1 tx _ (TabAt.below HTL.out HB.out) HTX.out).mono ?_
   rintro e w5 ⟨rfl, hb⟩
   have HG5 := am (blk_below HG0.out hb)
   have HLR5 := am (IsList.below hb HLR.out)
   have HO5 := am (Kd.R_below HO.out hb)
   have HB5 := am (below_step HB.out hb)
   clear hb HO HB HLR HG0 k0 k1
   go_wp2_with (first | ((with_reducible refine gate_builtin (b := .append) (xs := #[.tmp 17, .tmp 23]) rfl ?_); at_builtin; refine Kd.R_append Kd.string (w0 := w) w.heap.size rfl (.tmp 17) (.tmp 23) 45 9 (.string ⟨#[]⟩) 16 rfl Tryz.underlying45 infoMS rfl (by decide) (by omega) u3 xs tx [.string tx] (fun _ => True) (fun _ => False) rfl rfl ?aP (fun _ hk => hk.elim) ?aF ?aO ?aB ?aS ?aL ?_; (case aP => exact rfl); (case aF => exact (fun _ _ => trivial)); (case aO => exact HO5.out); (case aB => exact HB5.out); (case aS => exact (below_size HB5.out)); (case aL => have := HXL.out; omega); intro v1 w6 ho hb hg hat; have n0 : w6.cell? ⟨g, 2, none⟩ = some (.pointer q') := blk_cell (blk_grown HG5.out hg (Kd.R_ne HO5.out HG5.out (by decide))) 2; have HO6 := am ho; have HB6 := am hb; have HL6 := am (mt_grown HO5.out hg HLR5.out); clear ho hb hg hat))
   go_roundg (l0.length - (i + 1))
   case measure => have := HI.out; omega
   case rel => exact ⟨i + 1, q', rfl, ⟨by omega, rfl⟩, HL6, ⟨by rw [HSN.out]; exact HO6.out⟩, HB6⟩
  ·have ei : i = l0.length := by have := HI.out; omega
   subst ei
   have hL := HL.out
   rw [List.drop_eq_nil_of_le (Nat.le_refl _)] at hL
   obtain rfl : q = none := hL
   have ho := HO.out
   rw [List.take_of_length_le (Nat.le_refl _)] at ho
   by_cases hz : l0.length = 0
   ·obtain ⟨A5, c5, rfl⟩ := Kd.R_slice ho
    obtain rfl : l0 = [] := List.eq_nil_of_length_eq_zero hz
    clear ho
    go_wp2_with fail
    refine (Tryz.strings_Join_none A5 c5 ⟨#[32]⟩ _).mono ?_
    rintro e w9 ⟨rfl, rfl⟩
    go_wp2_with fail
    go_ret
    exact ⟨rfl, HB.out⟩
   ·obtain ⟨g5, c5, rfl, _, hg5, _⟩ := Kd.R_form ho (by rw [List.length_map]; omega)
    have HG9 := am hg5
    have HC9 := am (Kd.R_reads' ho)
    have HSM := am (mt_small l0 HF.out)
    clear ho hg5
    obtain ⟨xs, hxs⟩ : ∃ xs, xs = l0.map ttx := ⟨_, rfl⟩
    have HXL := am (show xs.length = l0.length by rw [hxs, List.length_map])
    rw [← hxs] at HC9 HSM ⊢
    have HXS := am hxs
    clear hxs
    go_wp2_with fail
    refine (Tryz.strings_Join g5 0 c5 xs ⟨#[32]⟩ _ (fun j x hx => mt_strs HC9.out.2.2 rfl j x hx) HG9.out (by have := HXL.out; omega) HC9.out.2.1 (by have := HSM.out; exact Nat.le_trans this (by omega))).mono ?_
    rintro e w9 ⟨rfl, hb9⟩
    have HB9 := am (below_step HB.out hb9)
    clear hb9
    go_wp2_with fail
    go_ret
    exact ⟨by rw [← HXS.out]; rfl, HB9.out⟩
theorem impl_MelodyText.calls (n : Nat) (A0 : Option Addr) (c0 : Nat) (l0 : List S49) (r : ByteArray) (w : World) (hr0 : Kd.C k49 w A0 l0.length l0) (hc0 : l0.length ≤ c0) (hTL : TabL w) (h : impl_MelodyText.f n l0 = some r) :
  Calls Tryz.prog 8 #[.slice A0 l0.length c0] w fun e w' => e = .returned (.string r) ∧ Below w.heap.size w w' := by
 unfold impl_MelodyText.f at h
 obtain ⟨b, hb, h⟩ := Option.bind_eq_some_iff.mp h
 have h := Option.some.inj h
 cases b with
 | true =>
  rw [if_pos rfl] at h
  rw [← h]
  exact melText_yes n A0 c0 l0 w hr0 hc0 hTL hb
 | false =>
  rw [if_neg (by decide)] at h
  rw [← h]
  clear h
  have HR0 := am hr0
  have HC0 := am hc0
  have H := am hb
  clear hr0 hc0 hb hTL
  go_enter Tryz.func8, Tryz.ntmps8
  go_wp2_with fail
  refine (impl_MelodyValid.calls n A0 c0 l0 false _ HR0.out HC0.out H.out).mono ?_
  rintro e w1 ⟨rfl, hb⟩
  have HB1 := am hb
  clear hb
  go_wp2_with fail
  go_ret
  exact ⟨rfl, HB1.out⟩


/-! ### laws_digits: function 9 -/
def laws_digits.f : Nat → Int → Option (ByteArray)
 | 0, _ => none
 | k + 1, a0 => if a0 < 10 then (some (strOfNums (([(wrap64 (48 + a0)) % 256] : List Int)))) else ((laws_digits.f k (wrap64 (Int.tdiv a0 10))).bind fun t291 => ((some (([(wrap64 (48 + (Int.tmod a0 10))) % 256] : List Int) : List Int)).bind fun y292 => (if t291.size + (strOfNums y292).size ≤ 9223372036854775807 then (some (t291 ++ (strOfNums y292))) else (none))))
theorem laws_digits.mono_l : ∀ k, (∀ y0, LeO (laws_digits.f k y0) (laws_digits.f (k + 1) y0))
 | 0 => fun _ r h => by simp [laws_digits.f] at h
 | k + 1 => by
  have ih0 := laws_digits.mono_l k
  ·intro y0
   unfold laws_digits.f
   repeat' first
   | (with_reducible exact ih0 _)
   | (with_reducible exact LeO.refl _)
   | (with_reducible exact LeO.none _)
   | (with_reducible refine LeO.ite ?_ ?_)
   | (with_reducible refine LeO.bind ?_ (fun _ => ?_))
   | exact ih0 _
   | exact LeO.none _
   | refine LeO.ite ?_ ?_
   | refine LeO.bind ?_ (fun _ => ?_)
theorem laws_digits.mono : ∀ a0 k, LeO (laws_digits.f k a0) (laws_digits.f (k + 1) a0) := by
 intro a0 k
 have ih0 := laws_digits.mono_l k
 exact ih0 a0
def laws_digits.T3 : Bool × List (List Nat × List Nat) := (true, [([], []), ([0], [0]), ([1], [1]), ([], []), ([3], [3]), ([4], [4]), ([5], [5]), ([6], [6]), ([7], [7]), ([2, 8], [2, 8]), ([9, 2, 0, 1, 2, 3, 4, 5, 6, 7, 8, 9], [9])])
def laws_digits.B3 : List Nat := [0, 1, 3, 0, 8, 24, 56, 120, 248, 511, 1023]
theorem laws_digits.tab3 : rtab .any (opsOf Tryz.f9 3) = laws_digits.T3 := by kernel_rfl
theorem laws_digits.bits3 : waitsOk laws_digits.T3.2 laws_digits.B3 = true := by kernel_rfl
set_option maxHeartbeats 8000000 in
set_option maxRecDepth 100000 in
theorem laws_digits.calls (k : Nat) : ∀ (a0 : Int) (r : ByteArray) (w : World) (h : laws_digits.f k a0 = some r),
  Calls Tryz.prog 9 #[.int .i64 a0] w fun e w' => e = .returned (.string r) ∧ Below w.heap.size w w' := by
 induction k using Nat.strongRecOn with
 | _ k ih =>
 intro a0 r w h
 cases k with
 | zero => exact absurd h (by simp [laws_digits.f])
 | succ k =>
 simp only [laws_digits.f] at h
 have HB := am (Below.refl w.heap.size w)
 have H : (if a0 < 10 then (some (strOfNums (([(wrap64 (48 + a0)) % 256] : List Int)))) else ((laws_digits.f k (wrap64 (Int.tdiv a0 10))).bind fun t291 => ((some (([(wrap64 (48 + (Int.tmod a0 10))) % 256] : List Int) : List Int)).bind fun y292 => (if t291.size + (strOfNums y292).size ≤ 9223372036854775807 then (some (t291 ++ (strOfNums y292))) else (none))))) = some r := h
 clear h
 by_cases c2 : a0 < 10
 ·rw [if_pos c2] at H
  have c2b0 : decide (a0 < 10) = true := decide_eq_true c2
  clear c2
  obtain ⟨y288, hy288⟩ : ∃ y_ : List Int, y_ = (([(wrap64 (48 + a0)) % 256] : List Int)) := ⟨_, rfl⟩
  replace H : (some (strOfNums y288)) = some r := by first | (rw [hy288]; with_reducible exact H) | (have H2_ := (Option.bind_some _ _).symm.trans H; rw [hy288]; with_reducible exact H2_) | (have H2_ := (Option.bind_some _ _).symm.trans H; with_reducible exact H2_) | with_reducible exact H | (rw [hy288]; exact H) | exact H
  have Ny288 := am hy288
  clear hy288
  obtain rfl := Option.some.inj H
  go_enter Tryz.func9, Tryz.ntmps9
  go_wp2_with (first | ((with_reducible refine gate_dst (N := 8) rfl ?_); refine Kd.R_lit (Kd.int .u8) _ 5 ?hg (N := 8) ?hd (xs := ([(wrap64 (48 + a0)) % 256] : List Int)) (inner := [.int .u8 ((wrap64 (48 + a0)) % 256)]) (ok := fun _ => True) (okp := fun _ => True) ?hr ?hp (fun _ hk => hk) trivial (Below.refl _ _) (Nat.le_refl _) (by simp) ?_; (case hd => rfl); (case hg => rfl); (case hr => first | (go_simp; done) | (go_simp; rfl)); (case hp => exact (Reps.one (show Kd.M (Kd.int .u8) _ _ _ ((wrap64 (48 + a0)) % 256) [.int .u8 ((wrap64 (48 + a0)) % 256)] from rfl) (Reps.none _ _))); intro v289 w3 ho4 hb hg_ hnew_; clear hg_ hnew_; (first | rw [← Ny288.out] at ho4 | (simp only [Int.reduceToNat] at ho4; rw [← Ny288.out] at ho4)); have n0_ := am (Kd.R_lower ho4 (below_size (bu HB.out))); have n1_ := am (below_step (bu HB.out) hb); clear HB; have HO290 := n0_; have HB := n1_; clear n0_ n1_; clear hb ho4; have hcv5 := own_string (P := Tryz.prog) Tryz.underlying22 Tryz.underlying5 Tryz.underlying9 (Kd.own_of_R HO290.out)))
  go_ret
  exact ⟨by first | rfl | (simp [errW_none, errW_some] <;> rfl) | (simp [*, errW_none, errW_some] <;> rfl), bu HB.out⟩
 ·rw [if_neg c2] at H
  have c2b0 : decide (a0 < 10) = false := decide_eq_false c2
  clear c2
  replace H := Option.bind_eq_some_iff.mp H
  obtain ⟨t291, A60, H⟩ := H
  replace H : ((some (([(wrap64 (48 + (Int.tmod a0 10))) % 256] : List Int) : List Int)).bind fun y292 => (if t291.size + (strOfNums y292).size ≤ 9223372036854775807 then (some (t291 ++ (strOfNums y292))) else (none))) = some r := H
  have A6 := am A60
  clear A60
  obtain ⟨y292, hy292⟩ : ∃ y_ : List Int, y_ = (([(wrap64 (48 + (Int.tmod a0 10))) % 256] : List Int)) := ⟨_, rfl⟩
  replace H : (if t291.size + (strOfNums y292).size ≤ 9223372036854775807 then (some (t291 ++ (strOfNums y292))) else (none)) = some r := by first | (rw [hy292]; with_reducible exact H) | (have H2_ := (Option.bind_some _ _).symm.trans H; rw [hy292]; with_reducible exact H2_) | (have H2_ := (Option.bind_some _ _).symm.trans H; with_reducible exact H2_) | with_reducible exact H | (rw [hy292]; exact H) | exact H
  have Ny292 := am hy292
  clear hy292
  by_cases c7 : t291.size + (strOfNums y292).size ≤ 9223372036854775807
  ·rw [if_pos c7] at H
   have c7b0 := eq_true c7
   have c7b1 : decide (t291.size + (strOfNums y292).size ≤ 9223372036854775807) = true := decide_eq_true c7
   try have c7b2 : (9223372036854775807 < t291.size + (strOfNums y292).size) = False := eq_false (Nat.not_lt.2 c7)
   obtain rfl := Option.some.inj H
   go_enter Tryz.func9, Tryz.ntmps9
   try go_wp2
   have n0_ := am (below_drew1 HB.out)
   clear HB
   have HB := n0_
   clear n0_
   refine start_ (n := 11) (S := fun w' => True) (ds := []) #[F,F,F,F,F,F,F,F,F,F,F] (by kernel_rfl) rfl rfl trivial (fun hHeld => ?_); refine with_tabW laws_digits.tab3 laws_digits.bits3 (fun HT_ HW_ => ?_)
   generalize w.drew = w8 at HB hHeld ⊢
   refine pz 0 (some 10) #[T,F,F,F,F,F,F,F,F,F,F] (any_of HT_.out (by kernel_rfl)) (h := ?_)
   refine pz 1 (some 11) #[T,T,F,F,F,F,F,F,F,F,F] (any_of HT_.out (by kernel_rfl)) (h := ?_)
   refine pz 3 (some 13) #[T,T,F,T,F,F,F,F,F,F,F] (any_of HT_.out (by kernel_rfl)) (h := ?_)
   refine pz 4 (some 14) #[T,T,F,T,T,F,F,F,F,F,F] (any_of HT_.out (by kernel_rfl)) (h := ?_)
   refine pz 5 (some 15) #[T,T,F,T,T,T,F,F,F,F,F] (any_of HT_.out (by kernel_rfl)) (h := ?_)
   refine pz 6 (some 16) #[T,T,F,T,T,T,T,F,F,F,F] (any_of HT_.out (by kernel_rfl)) (h := ?_)
   refine join_ (σ := Value) 2 #[T,T,T,T,T,T,T,T,T,F,F] (fun s_ => [(12, .string t291), (17, s_), (18, .string (strOfNums y292))]) (fun s_ w' => (Kd.R (Kd.int .u8) 5 w' w.heap.size (fun _ => True) s_ y292) ∧ (Below w.heap.size w w')) ?_ ?_
   rotate_left
   ·intro hCont
    refine two_ (i := 2) (j := 7) (Ni := some 12) (Nj := some 17) #[T,T,T,T,T,T,T,F,F,F,F] #[T,T,F,T,T,T,T,T,F,F,F] rfl rfl rfl rfl (two_of HT_.out (by kernel_rfl)) (by decide) (by decide) (fun K hK => ?_) (fun K hK => ?_)
    ·skip
     refine goes_ Tryz.func9 (by kernel_rfl) rfl #[.int .i64 (wrap64 (Int.tdiv a0 10))] (by rfl) rfl rfl (by (try simp only [List.map_toArray, List.map_cons, List.map_nil]); first | done | rfl | (simp only [List.length_drop, List.length_take]; rfl)) ?_
     with_reducible refine (ih k (by omega) (wrap64 (Int.tdiv a0 10)) t291 _ A6.out).mono ?_
     rintro e w9 ⟨rfl, hb⟩
     refine ⟨_, rfl, ?_⟩
     have n0_ := am (below_step (bu HB.out) hb)
     clear HB
     have HB := n0_
     clear n0_
     (try clear hb)
     (try clear hb2)
     (try clear hk)
     (try clear hi)
     refine hK.out _ _ trivial (fun hHeld => ?_)
     clear hK K
     refine norm_ (a' := ?_) ?_ ?_
     rotate_left
     ·show Act.put _ (some 12) _ = _
      simp only [Act.put, sA, sZ, sS, i64_w, i32_w]
      rfl
     refine one_ (i := 7) (N := some 17) #[T,T,T,T,T,T,T,T,F,F,F] rfl rfl (one_of HT_.out (by kernel_rfl)) (by decide) (fun K hK => ?_)
     refine Kd.R_lit_step (Kd.int .u8) _ 5 ?hg (N := 17) ?hd (xs := ([(wrap64 (48 + (Int.tmod a0 10))) % 256] : List Int)) (inner := [.int .u8 ((wrap64 (48 + (Int.tmod a0 10))) % 256)]) (ok := fun _ => True) (okp := fun _ => True) ?hr ?hp (fun _ hk => hk) trivial (Below.refl _ _) (Nat.le_refl _) (by simp) ?_; (case hd => rfl); (case hg => rfl); (case hr => first | (go_simp; done) | (go_simp; rfl)); (case hp => exact (Reps.one (show Kd.M (Kd.int .u8) _ _ _ ((wrap64 (48 + (Int.tmod a0 10))) % 256) [.int .u8 ((wrap64 (48 + (Int.tmod a0 10))) % 256)] from rfl) (Reps.none _ _)))
     intro v293 w10 ho11 hb hg_ hnew_
     clear hg_ hnew_
     (first | rw [← Ny292.out] at ho11 | (simp only [Int.reduceToNat] at ho11; rw [← Ny292.out] at ho11))
     have n0_ := am (Kd.R_lower ho11 (below_size (bu HB.out)))
     have n1_ := am (below_step (bu HB.out) hb)
     clear HB
     have HO294 := n0_
     have HB := n1_
     clear n0_ n1_
     clear hb ho11
     refine hK.out _ _ trivial (fun hHeld => ?_)
     clear hK K
     refine norm_ (a' := ?_) ?_ ?_
     rotate_left
     ·show Act.put _ (some 17) _ = _
      simp only [Act.put, sA, sZ, sS, i64_w, i32_w]
      rfl
     refine one_ (i := 8) (N := some 18) #[T,T,T,T,T,T,T,T,T,F,F] rfl rfl (one_of HT_.out (by kernel_rfl)) (by decide) (fun K hK => ?_)
     have hcv12 := own_string (P := Tryz.prog) Tryz.underlying22 Tryz.underlying5 Tryz.underlying9 (Kd.own_of_R HO294.out)
     refine value_ (w1 := ?_) (v := ?_) (by rfl) rfl ?_ ?_
     rotate_left 2
     ·go_simp
      constructor
      ·rfl
      ·rfl
     clear hcv12
     refine hK.out _ _ trivial (fun hHeld => ?_)
     clear hK K
     refine norm_ (a' := ?_) ?_ ?_
     rotate_left
     ·show Act.put _ (some 18) _ = _
      simp only [Act.put, sA, sZ, sS, i64_w, i32_w]
      rfl
     exact norm_ (by simp only [putAll, Act.put, sA, sZ, sS]) (hCont (v293) _ ⟨(ru HO294.out), (bu HB.out)⟩)
    ·skip
     refine Kd.R_lit_step (Kd.int .u8) _ 5 ?hg (N := 17) ?hd (xs := ([(wrap64 (48 + (Int.tmod a0 10))) % 256] : List Int)) (inner := [.int .u8 ((wrap64 (48 + (Int.tmod a0 10))) % 256)]) (ok := fun _ => True) (okp := fun _ => True) ?hr ?hp (fun _ hk => hk) trivial (Below.refl _ _) (Nat.le_refl _) (by simp) ?_; (case hd => rfl); (case hg => rfl); (case hr => first | (go_simp; done) | (go_simp; rfl)); (case hp => exact (Reps.one (show Kd.M (Kd.int .u8) _ _ _ ((wrap64 (48 + (Int.tmod a0 10))) % 256) [.int .u8 ((wrap64 (48 + (Int.tmod a0 10))) % 256)] from rfl) (Reps.none _ _)))
     intro v293 w9 ho10 hb hg_ hnew_
     clear hg_ hnew_
     (first | rw [← Ny292.out] at ho10 | (simp only [Int.reduceToNat] at ho10; rw [← Ny292.out] at ho10))
     have n0_ := am (Kd.R_lower ho10 (below_size (bu HB.out)))
     have n1_ := am (below_step (bu HB.out) hb)
     clear HB
     have HO294 := n0_
     have HB := n1_
     clear n0_ n1_
     clear hb ho10
     refine hK.out _ _ trivial (fun hHeld => ?_)
     clear hK K
     refine norm_ (a' := ?_) ?_ ?_
     rotate_left
     ·show Act.put _ (some 17) _ = _
      simp only [Act.put, sA, sZ, sS, i64_w, i32_w]
      rfl
     refine two_ (i := 2) (j := 8) (Ni := some 12) (Nj := some 18) #[T,T,T,T,T,T,T,T,F,F,F] #[T,T,F,T,T,T,T,T,T,F,F] rfl rfl rfl rfl (two_of HT_.out (by kernel_rfl)) (by decide) (by decide) (fun K hK => ?_) (fun K hK => ?_)
     ·skip
      refine goes_ Tryz.func9 (by kernel_rfl) rfl #[.int .i64 (wrap64 (Int.tdiv a0 10))] (by rfl) rfl rfl (by (try simp only [List.map_toArray, List.map_cons, List.map_nil]); first | done | rfl | (simp only [List.length_drop, List.length_take]; rfl)) ?_
      with_reducible refine (ih k (by omega) (wrap64 (Int.tdiv a0 10)) t291 _ A6.out).mono ?_
      rintro e w11 ⟨rfl, hb⟩
      refine ⟨_, rfl, ?_⟩
      have n0_ := am (Kd.R_below (ru HO294.out) hb)
      have n1_ := am (below_step (bu HB.out) hb)
      clear HO294
      clear HB
      have HO294 := n0_
      have HB := n1_
      clear n0_ n1_
      (try clear hb)
      (try clear hb2)
      (try clear hk)
      (try clear hi)
      refine hK.out _ _ trivial (fun hHeld => ?_)
      clear hK K
      refine norm_ (a' := ?_) ?_ ?_
      rotate_left
      ·show Act.put _ (some 12) _ = _
       simp only [Act.put, sA, sZ, sS, i64_w, i32_w]
       rfl
      refine one_ (i := 8) (N := some 18) #[T,T,T,T,T,T,T,T,T,F,F] rfl rfl (one_of HT_.out (by kernel_rfl)) (by decide) (fun K hK => ?_)
      have hcv12 := own_string (P := Tryz.prog) Tryz.underlying22 Tryz.underlying5 Tryz.underlying9 (Kd.own_of_R HO294.out)
      refine value_ (w1 := ?_) (v := ?_) (by rfl) rfl ?_ ?_
      rotate_left 2
      ·go_simp
       constructor
       ·rfl
       ·rfl
      clear hcv12
      refine hK.out _ _ trivial (fun hHeld => ?_)
      clear hK K
      refine norm_ (a' := ?_) ?_ ?_
      rotate_left
      ·show Act.put _ (some 18) _ = _
       simp only [Act.put, sA, sZ, sS, i64_w, i32_w]
       rfl
      exact norm_ (by simp only [putAll, Act.put, sA, sZ, sS]) (hCont (v293) _ ⟨(ru HO294.out), (bu HB.out)⟩)
     ·skip
      have hcv11 := own_string (P := Tryz.prog) Tryz.underlying22 Tryz.underlying5 Tryz.underlying9 (Kd.own_of_R HO294.out)
      refine value_ (w1 := ?_) (v := ?_) (by rfl) rfl ?_ ?_
      rotate_left 2
      ·go_simp
       constructor
       ·rfl
       ·rfl
      clear hcv11
      refine hK.out _ _ trivial (fun hHeld => ?_)
      clear hK K
      refine norm_ (a' := ?_) ?_ ?_
      rotate_left
      ·show Act.put _ (some 18) _ = _
       simp only [Act.put, sA, sZ, sS, i64_w, i32_w]
       rfl
      refine one_ (i := 2) (N := some 12) #[T,T,T,T,T,T,T,T,T,F,F] rfl rfl (one_of HT_.out (by kernel_rfl)) (by decide) (fun K hK => ?_)
      refine goes_ Tryz.func9 (by kernel_rfl) rfl #[.int .i64 (wrap64 (Int.tdiv a0 10))] (by rfl) rfl rfl (by (try simp only [List.map_toArray, List.map_cons, List.map_nil]); first | done | rfl | (simp only [List.length_drop, List.length_take]; rfl)) ?_
      with_reducible refine (ih k (by omega) (wrap64 (Int.tdiv a0 10)) t291 _ A6.out).mono ?_
      rintro e w12 ⟨rfl, hb⟩
      refine ⟨_, rfl, ?_⟩
      have n0_ := am (Kd.R_below (ru HO294.out) hb)
      have n1_ := am (below_step (bu HB.out) hb)
      clear HO294
      clear HB
      have HO294 := n0_
      have HB := n1_
      clear n0_ n1_
      (try clear hb)
      (try clear hb2)
      (try clear hk)
      (try clear hi)
      refine hK.out _ _ trivial (fun hHeld => ?_)
      clear hK K
      refine norm_ (a' := ?_) ?_ ?_
      rotate_left
      ·show Act.put _ (some 12) _ = _
       simp only [Act.put, sA, sZ, sS, i64_w, i32_w]
       rfl
      exact norm_ (by simp only [putAll, Act.put, sA, sZ, sS]) (hCont (v293) _ ⟨(ru HO294.out), (bu HB.out)⟩)
   rintro v293 w13 ⟨h0_, h1_⟩
   have n0_ : Aside0 (Kd.R (Kd.int .u8) 5 w13 w.heap.size (fun _ => True) v293 y292) := ⟨h0_⟩
   have n1_ : Aside0 (Below w.heap.size w w13) := ⟨h1_⟩
   clear HB
   clear h0_ h1_
   have HO294 := n0_
   have HB := n1_
   clear n0_ n1_
   have hHeld := trivial
   refine norm_ (a' := ?_) ?_ ?_
   rotate_left
   ·simp only [putAll, Act.put, sA, sZ, sS]
    rfl
   refine pz 9 (some 19) #[T,T,T,T,T,T,T,T,T,T,F] (any_of HT_.out (by kernel_rfl)) (h := ?_)
   refine pz 10 (some 2) #[T,T,T,T,T,T,T,T,T,T,T] (any_of HT_.out (by kernel_rfl)) (h := ?_)
   refine done_ (done_of HT_.out (by kernel_rfl)) ?_
   try go_wp2
   go_ret
   exact ⟨by first | rfl | (simp [errW_none, errW_some] <;> rfl) | (simp [*, errW_none, errW_some] <;> rfl), bu HB.out⟩
  ·rw [if_neg c7] at H
   exact absurd H (by simp)

/-! ### endLine, by hand -/
def endTxt (t u : ByteArray) : ByteArray := ((((⟨#[116, 111, 110, 101, 115, 32]⟩ : ByteArray) ++ t) ++ (⟨#[32, 101, 110, 116, 114, 105, 101, 115, 32]⟩ : ByteArray)) ++ u) ++ (⟨#[10]⟩ : ByteArray)
def laws_endLine.f (k : Nat) (a0 : Int) (a1 : Int) : Option ByteArray := (laws_digits.f k a0).bind fun t => (laws_digits.f k a1).bind fun u => if t.size + u.size < 1000 then some (endTxt t u) else none
set_option maxHeartbeats 8000000 in
set_option maxRecDepth 100000 in
theorem laws_endLine.calls (k : Nat) (a0 : Int) (a1 : Int) (r : ByteArray) (w : World) (h : laws_endLine.f k a0 a1 = some r) :
  Calls Tryz.prog 10 #[.int .i64 a0, .int .i64 a1] w fun e w' => e = .returned (.string r) ∧ Below w.heap.size w w' := by
 have HB := am (Below.refl w.heap.size w)
 unfold laws_endLine.f at h
 obtain ⟨t, ht, h⟩ := Option.bind_eq_some_iff.mp h
 obtain ⟨u, hu, h⟩ := Option.bind_eq_some_iff.mp h
 by_cases hs : t.size + u.size < 1000
 ·rw [if_pos hs] at h
  have HR := am (Option.some.inj h)
  have A3 := am ht
  have A6 := am hu
  clear h ht hu
  have s1 : (9223372036854775807 < 6 + t.size) = False := eq_false (by omega)
  have s2 : (9223372036854775807 < 6 + t.size + 9) = False := eq_false (by omega)
  have s3 : (9223372036854775807 < 6 + t.size + 9 + u.size) = False := eq_false (by omega)
  have s4 : (9223372036854775807 < 6 + t.size + 9 + u.size + 1) = False := eq_false (by omega)
  clear hs
  go_enter Tryz.func10, Tryz.ntmps10
  go_wp2_with fail
  with_reducible refine (laws_digits.calls k a0 t _ A3.out).mono ?_
  rintro e w9 ⟨rfl, hb⟩
  have n0_ := am (below_step HB.out hb)
  clear HB
  have HB := n0_
  clear n0_ hb
  go_wp2_with fail
  with_reducible refine (laws_digits.calls k a1 u _ A6.out).mono ?_
  rintro e w9 ⟨rfl, hb⟩
  have n0_ := am (below_step HB.out hb)
  clear HB
  have HB := n0_
  clear n0_ hb
  go_wp2_with fail
  go_ret
  exact ⟨by rw [← HR.out]; rfl, HB.out⟩
 ·rw [if_neg hs] at h
  exact absurd h (by simp)


/-! ### laws_FnExecuteMode: function 3 -/
mutual
def laws_FnExecuteMode.j0 : Nat → List (S49) → Int → Bool → Int → Bool → Bool → Option (Bool)
 | 0, _, _, _, _, _, _ => none
 | k + 1, x3, x4, x5, x6, x7, x36 => if x36 = true then (if (x5 == x7) = true then (some (x4 == x6)) else (some false)) else (if (x3.length : Int) > 8 then (laws_FnExecuteMode.j1 k x3 x4 (⟨#[102, 111, 117, 110, 100, 10]⟩ : ByteArray)) else (laws_FnExecuteMode.j1 k x3 x4 (⟨#[102, 111, 117, 110, 100, 32, 97, 118, 101, 10]⟩ : ByteArray)))
def laws_FnExecuteMode.j1 : Nat → List (S49) → Int → ByteArray → Option (Bool)
 | 0, _, _, _ => none
 | k + 1, x3, x4, x8 => (impl_MelodyText.f k x3).bind fun t302 => (if 7 + t302.size ≤ 9223372036854775807 then (if ((⟨#[109, 101, 108, 111, 100, 121, 32]⟩ : ByteArray) ++ t302).size + 31 ≤ 9223372036854775807 then ((impl_Execute.f k (((⟨#[109, 101, 108, 111, 100, 121, 32]⟩ : ByteArray) ++ t302) ++ (⟨#[10, 109, 111, 100, 101, 10, 101, 110, 116, 101, 114, 32, 97, 118, 101, 10, 102, 105, 110, 100, 10, 101, 110, 116, 101, 114, 32, 97, 118, 101, 10]⟩ : ByteArray))).bind fun t303 => ((laws_digits.f k x4).bind fun t304 => (if 3 + t304.size ≤ 9223372036854775807 then (if ((⟨#[111, 107, 10]⟩ : ByteArray) ++ t304).size + 4 ≤ 9223372036854775807 then (if (((⟨#[111, 107, 10]⟩ : ByteArray) ++ t304) ++ (⟨#[10, 111, 107, 10]⟩ : ByteArray)).size + x8.size ≤ 9223372036854775807 then (if ((((⟨#[111, 107, 10]⟩ : ByteArray) ++ t304) ++ (⟨#[10, 111, 107, 10]⟩ : ByteArray)) ++ x8).size + 3 ≤ 9223372036854775807 then ((laws_endLine.f k (x3.length : Int) 1).bind fun t305 => (if (((((⟨#[111, 107, 10]⟩ : ByteArray) ++ t304) ++ (⟨#[10, 111, 107, 10]⟩ : ByteArray)) ++ x8) ++ (⟨#[110, 111, 10]⟩ : ByteArray)).size + t305.size ≤ 9223372036854775807 then (some (t303.toList == ((((((⟨#[111, 107, 10]⟩ : ByteArray) ++ t304) ++ (⟨#[10, 111, 107, 10]⟩ : ByteArray)) ++ x8) ++ (⟨#[110, 111, 10]⟩ : ByteArray)) ++ t305).toList)) else (none))) else (none)) else (none)) else (none)) else (none)))) else (none)) else (none))
end
def laws_FnExecuteMode.f (k : Nat) (l0 : List Int) : Option (Bool) := if (l0.length : Int) > 1048576 then (some true) else ((spec_DrawModeLikely.f k l0).bind fun t295 => ((impl_ModeLikely.f k t295).bind fun bt298 => ((spec_ModeLikely.f k t295).bind fun bt300 => (if (bt298.2 != bt300.2) = true then (laws_FnExecuteMode.j0 k t295 bt298.1 bt298.2 bt300.1 bt300.2 true) else (if bt298.1 = bt300.1 then (laws_FnExecuteMode.j0 k t295 bt298.1 bt298.2 bt300.1 bt300.2 (!bt298.2)) else (laws_FnExecuteMode.j0 k t295 bt298.1 bt298.2 bt300.1 bt300.2 true))))))
set_option maxHeartbeats 8000000 in
set_option maxRecDepth 100000 in
theorem laws_FnExecuteMode.calls (k : Nat) (A0 : Option Addr) (c0 : Nat) (l0 : List Int) (r : Bool) (w : World) (hr0 : Kd.C (Kd.int .u8) w A0 l0.length l0) (hc0 : l0.length ≤ c0) (hTD : TabD w) (hTH : TabH w) (hTL : TabL w) (hTM : TabM w) (h : laws_FnExecuteMode.f k l0 = some r) :
  Calls Tryz.prog 3 #[.slice A0 l0.length c0] w fun e w' => e = .returned (.bool r) ∧ Below w.heap.size w w' := by
 have HTD := am hTD
 clear hTD
 have HTH := am hTH
 clear hTH
 have HTL := am hTL
 clear hTL
 have HTM := am hTM
 clear hTM
 have HR0 := am hr0
 have HC0 := am hc0
 clear hr0 hc0
 have HB := am (Below.refl w.heap.size w)
 have H : (if (l0.length : Int) > 1048576 then (some true) else ((spec_DrawModeLikely.f k l0).bind fun t295 => ((impl_ModeLikely.f k t295).bind fun bt298 => ((spec_ModeLikely.f k t295).bind fun bt300 => (if (bt298.2 != bt300.2) = true then (laws_FnExecuteMode.j0 k t295 bt298.1 bt298.2 bt300.1 bt300.2 true) else (if bt298.1 = bt300.1 then (laws_FnExecuteMode.j0 k t295 bt298.1 bt298.2 bt300.1 bt300.2 (!bt298.2)) else (laws_FnExecuteMode.j0 k t295 bt298.1 bt298.2 bt300.1 bt300.2 true))))))) = some r := h
 clear h
 by_cases c2 : (l0.length : Int) > 1048576
 ·rw [if_pos c2] at H
  have c2b0 : decide (1048576 < (l0.length : Int)) = true := decide_eq_true c2
  have c2b1 : decide (1048576 < l0.length) = true := decide_eq_true (by omega)
  clear c2
  obtain rfl := Option.some.inj H
  go_enter Tryz.func3, Tryz.ntmps3
  go_wp2
  go_ret
  exact ⟨by first | rfl | (simp [errW_none, errW_some] <;> rfl) | (simp [*, errW_none, errW_some] <;> rfl), bu HB.out⟩
 ·rw [if_neg c2] at H
  have c2b0 : decide (1048576 < (l0.length : Int)) = false := decide_eq_false c2
  have c2b1 : decide (1048576 < l0.length) = false := decide_eq_false (by omega)
  clear c2
  replace H := Option.bind_eq_some_iff.mp H
  obtain ⟨t295, A30, H⟩ := H
  replace H : ((impl_ModeLikely.f k t295).bind fun bt298 => ((spec_ModeLikely.f k t295).bind fun bt300 => (if (bt298.2 != bt300.2) = true then (laws_FnExecuteMode.j0 k t295 bt298.1 bt298.2 bt300.1 bt300.2 true) else (if bt298.1 = bt300.1 then (laws_FnExecuteMode.j0 k t295 bt298.1 bt298.2 bt300.1 bt300.2 (!bt298.2)) else (laws_FnExecuteMode.j0 k t295 bt298.1 bt298.2 bt300.1 bt300.2 true))))) = some r := H
  have A3 := am A30
  clear A30
  replace H := Option.bind_eq_some_iff.mp H
  obtain ⟨⟨t298, t299⟩, A40, H⟩ := H
  replace H : ((spec_ModeLikely.f k t295).bind fun bt300 => (if (t299 != bt300.2) = true then (laws_FnExecuteMode.j0 k t295 t298 t299 bt300.1 bt300.2 true) else (if t298 = bt300.1 then (laws_FnExecuteMode.j0 k t295 t298 t299 bt300.1 bt300.2 (!t299)) else (laws_FnExecuteMode.j0 k t295 t298 t299 bt300.1 bt300.2 true)))) = some r := H
  have A4 := am A40
  clear A40
  replace H := Option.bind_eq_some_iff.mp H
  obtain ⟨⟨t300, t301⟩, A50, H⟩ := H
  replace H : (if (t299 != t301) = true then (laws_FnExecuteMode.j0 k t295 t298 t299 t300 t301 true) else (if t298 = t300 then (laws_FnExecuteMode.j0 k t295 t298 t299 t300 t301 (!t299)) else (laws_FnExecuteMode.j0 k t295 t298 t299 t300 t301 true))) = some r := H
  have A5 := am A50
  clear A50
  have HC6 := am H
  clear H
  go_enter Tryz.func3, Tryz.ntmps3
  go_upto_region 6 with (first | ((with_reducible refine gate_callee (f := 4) rfl ?_); refine goesL_ (some 14) rfl rfl Tryz.func4 (by kernel_rfl) rfl #[.slice A0 l0.length c0] rfl (by (try simp only [List.map_toArray, List.map_cons, List.map_nil]); first | done | rfl | (simp only [List.length_drop, List.length_take]; rfl)) ?_; (with_reducible refine (spec_DrawModeLikely.calls k _ _ l0 t295 _ ?side1 ?side2 A3.out).mono ?_); (case side1 => exact cu HR0.out); (case side2 => exact HC0.out); rintro e w7 ⟨v296, rfl, ho0, hb⟩; refine ⟨_, rfl, ?_⟩; have n0_ := am (Kd.R_lower ho0 (below_size (bu HB.out))); have n1_ := am (below_step (bu HB.out) hb); clear HB; have HO297 := n0_; have HB := n1_; clear n0_ n1_; (try clear hb); (try clear hb2); (try clear hk); (try clear hi); (try clear ho0); obtain ⟨Ao8, co8, eo8⟩ := Kd.R_slice HO297.out; subst eo8) | ((with_reducible refine gate_callee (f := 5) rfl ?_); refine goesL_ (some 17) rfl rfl Tryz.func5 (by kernel_rfl) rfl #[.slice Ao8 t295.length co8] rfl (by (try simp only [List.map_toArray, List.map_cons, List.map_nil]); first | done | rfl | (simp only [List.length_drop, List.length_take]; rfl)) ?_; (with_reducible refine (impl_ModeLikely.calls k _ _ t295 t298 t299 _ ?side1 ?side2 ?side3 A4.out).mono ?_); (case side1 => exact cu (Kd.R_reads' HO297.out).2.2); (case side2 => exact (Kd.R_reads' HO297.out).2.1); (case side3 => first | exact HTD.out | exact TabAt.below HTD.out (bu HB.out)); rintro e w9 ⟨rfl, hb⟩; refine ⟨_, rfl, ?_⟩; have n0_ := am (Kd.R_below (ru HO297.out) hb); have n1_ := am (below_step (bu HB.out) hb); clear HO297; clear HB; have HO297 := n0_; have HB := n1_; clear n0_ n1_; (try clear hb); (try clear hb2); (try clear hk); (try clear hi)) | ((with_reducible refine gate_callee (f := 6) rfl ?_); refine goesL_ (some 22) rfl rfl Tryz.func6 (by kernel_rfl) rfl #[.slice Ao8 t295.length co8] rfl (by (try simp only [List.map_toArray, List.map_cons, List.map_nil]); first | done | rfl | (simp only [List.length_drop, List.length_take]; rfl)) ?_; (with_reducible refine (spec_ModeLikely.calls k _ _ t295 t300 t301 _ ?side1 ?side2 A5.out).mono ?_); (case side1 => exact cu (Kd.R_reads' HO297.out).2.2); (case side2 => exact (Kd.R_reads' HO297.out).2.1); rintro e w10 ⟨rfl, hb⟩; refine ⟨_, rfl, ?_⟩; have n0_ := am (Kd.R_below (ru HO297.out) hb); have n1_ := am (below_step (bu HB.out) hb); clear HO297; clear HB; have HO297 := n0_; have HB := n1_; clear n0_ n1_; (try clear hb); (try clear hb2); (try clear hk); (try clear hi)))
  (try simp only [Act.put, sA, sZ, sS])
  go_cut [36] (fun v36 wc => ∃ (kq : Nat) (x36_5 : Bool), v36 = .bool x36_5 ∧ Aside0 (laws_FnExecuteMode.j0 kq t295 t298 t299 t300 t301 x36_5 = some r) ∧ Aside0 (kq ≤ k) ∧ Aside0 (Kd.R k49 49 wc w.heap.size (fun _ => True) (.slice Ao8 t295.length co8) t295) ∧ Aside0 (Below w.heap.size w wc))
  case first =>
   have H := HC6.out
   clear HC6
   by_cases c11 : (t299 != t301) = true
   ·rw [if_pos c11] at H
    have c11b0 : (t299 != t301) = true := c11
    (try (have c11b1 : decide (t299 = t301) = false := by simpa using c11))
    (try (have c11b2 : (t299 == t301) = false := by simpa using c11))
    (try (have c11b3 : ¬ (t299 = t301) := by simpa using c11))
    clear c11
    (first | rw [c11b0] | (simp only [i64_w, i32_w]; rw [c11b0]) | skip)
    have H' := am H
    clear H
    go_wp2
    go_meet
    case rel => exact ⟨_, (true), (by first | rfl | (simp; done) | (simp [*]; done)), H', ⟨by first | omega | exact Nat.le_refl _⟩, ⟨ru HO297.out⟩, ⟨bu HB.out⟩⟩
   ·rw [if_neg c11] at H
    have c11b0 : (t299 != t301) = false := by simpa using c11
    (try (have c11b1 : decide (t299 = t301) = true := by simpa using c11))
    (try (have c11b2 : (t299 == t301) = true := by simpa using c11))
    clear c11
    (first | rw [c11b0] | (simp only [i64_w, i32_w]; rw [c11b0]) | skip)
    by_cases c12 : t298 = t300
    ·rw [if_pos c12] at H
     have c12b0 : (t298 == t300) = true := beq_iff_eq.mpr c12
     have c12b1 : (t298 != t300) = false := bne_eq_false_iff_eq.mpr c12
     clear c12
     have H' := am H
     clear H
     go_wp2
     go_meet
     case rel => exact ⟨_, (!t299), (by first | rfl | (simp; done) | (simp [*]; done)), H', ⟨by first | omega | exact Nat.le_refl _⟩, ⟨ru HO297.out⟩, ⟨bu HB.out⟩⟩
    ·rw [if_neg c12] at H
     have c12b0 : (t298 == t300) = false := beq_eq_false_iff_ne.mpr c12
     have c12b1 : (t298 != t300) = true := bne_iff_ne.mpr c12
     have H' := am H
     clear H
     go_wp2
     go_meet
     case rel => exact ⟨_, (true), (by first | rfl | (simp; done) | (simp [*]; done)), H', ⟨by first | omega | exact Nat.le_refl _⟩, ⟨ru HO297.out⟩, ⟨bu HB.out⟩⟩
  case rest =>
   clear HC6
   try clear c1
   try clear c2
   try clear c2b0
   try clear c2b1
   try clear p2
   try clear c3
   try clear c4
   try clear c5
   try clear c6
   try clear c11
   try clear c11b0
   try clear c11b1
   try clear c11b2
   try clear c12
   try clear c12b0
   try clear c12b1
   obtain ⟨kq, x36_5, rfl, HA, HJ5, HO_3, HB⟩ := hcut
   cases kq with
   | zero => exact absurd HA.out (by simp [laws_FnExecuteMode.j0])
   | succ kj5 =>
    have H := HA.out
    clear HA
    simp only [laws_FnExecuteMode.j0] at H
    by_cases c13 : x36_5 = true
    ·subst c13
     have H1 : (if (t299 == t301) = true then (some (t298 == t300)) else (some false)) = some r := by rw [if_pos rfl] at H; exact H
     clear H
     have H := H1
     clear H1
     by_cases c14 : (t299 == t301) = true
     ·rw [if_pos c14] at H
      have c14b0 : (t299 == t301) = true := c14
      (try (have c14b1 : decide (t299 = t301) = true := by simpa using c14))
      (try (have c14b2 : (t299 == t301) = true := by simpa using c14))
      clear c14
      obtain rfl := Option.some.inj H
      go_wp2
      go_ret
      exact ⟨by first | rfl | (simp [errW_none, errW_some] <;> rfl) | (simp [*, errW_none, errW_some] <;> rfl), bu HB.out⟩
     ·rw [if_neg c14] at H
      have c14b0 : (t299 == t301) = false := by simpa using c14
      (try (have c14b1 : decide (t299 = t301) = false := by simpa using c14))
      (try (have c14b2 : (t299 == t301) = false := by simpa using c14))
      (try (have c14b3 : ¬ (t299 = t301) := by simpa using c14))
      clear c14
      obtain rfl := Option.some.inj H
      go_wp2
      go_ret
      exact ⟨by first | rfl | (simp [errW_none, errW_some] <;> rfl) | (simp [*, errW_none, errW_some] <;> rfl), bu HB.out⟩
    ·replace c13 := Bool.eq_false_iff.mpr c13
     subst c13
     have H1 : (if (t295.length : Int) > 8 then (laws_FnExecuteMode.j1 kj5 t295 t298 (⟨#[102, 111, 117, 110, 100, 10]⟩ : ByteArray)) else (laws_FnExecuteMode.j1 kj5 t295 t298 (⟨#[102, 111, 117, 110, 100, 32, 97, 118, 101, 10]⟩ : ByteArray))) = some r := by rw [if_neg (show ¬ (false = true) by decide)] at H; exact H
     clear H
     have H := H1
     clear H1
     have HC15 := am H
     clear H
     go_upto_if 47 with (fail)
     go_cut [8] (fun v8 wc => ∃ (kq : Nat) (x8_14 : ByteArray), v8 = .string x8_14 ∧ Aside0 (laws_FnExecuteMode.j1 kq t295 t298 x8_14 = some r) ∧ Aside0 (kq ≤ kj5) ∧ Aside0 (Kd.R k49 49 wc w.heap.size (fun _ => True) (.slice Ao8 t295.length co8) t295) ∧ Aside0 (Below w.heap.size w wc))
     case first =>
      have H := HC15.out
      clear HC15
      by_cases c16 : (t295.length : Int) > 8
      ·rw [if_pos c16] at H
       have c16b0 : decide (8 < (t295.length : Int)) = true := decide_eq_true c16
       have c16b1 : decide (8 < t295.length) = true := decide_eq_true (by omega)
       clear c16
       (first | rw [c16b0] | (simp only [i64_w, i32_w]; rw [c16b0]) | skip)
       have H' := am H
       clear H
       go_wp2
       go_meet
       case rel => exact ⟨_, ((⟨#[102, 111, 117, 110, 100, 10]⟩ : ByteArray)), (by first | rfl | (simp; done) | (simp [*]; done)), H', ⟨by have := HJ5.out; first | omega | exact Nat.le_refl _⟩, ⟨ru HO_3.out⟩, ⟨bu HB.out⟩⟩
      ·rw [if_neg c16] at H
       have c16b0 : decide (8 < (t295.length : Int)) = false := decide_eq_false c16
       have c16b1 : decide (8 < t295.length) = false := decide_eq_false (by omega)
       clear c16
       (first | rw [c16b0] | (simp only [i64_w, i32_w]; rw [c16b0]) | skip)
       have H' := am H
       clear H
       go_wp2
       go_meet
       case rel => exact ⟨_, ((⟨#[102, 111, 117, 110, 100, 32, 97, 118, 101, 10]⟩ : ByteArray)), (by first | rfl | (simp; done) | (simp [*]; done)), H', ⟨by have := HJ5.out; first | omega | exact Nat.le_refl _⟩, ⟨ru HO_3.out⟩, ⟨bu HB.out⟩⟩
     case rest =>
      clear HC15
      try clear c1
      try clear c2
      try clear c2b0
      try clear c2b1
      try clear p2
      try clear c3
      try clear c4
      try clear c5
      try clear c6
      try clear c11
      try clear c11b0
      try clear c11b1
      try clear c11b2
      try clear c12
      try clear c12b0
      try clear c12b1
      try clear c13
      try clear c14
      try clear c14b0
      try clear c14b1
      try clear c14b2
      try clear c16
      try clear c16b0
      try clear c16b1
      try clear p2
      obtain ⟨kq, x8_14, rfl, HA, HJ14, HO_3, HB⟩ := hcut
      cases kq with
      | zero => exact absurd HA.out (by simp [laws_FnExecuteMode.j1])
      | succ kj14 =>
       have H := HA.out
       clear HA
       simp only [laws_FnExecuteMode.j1] at H
       replace H := Option.bind_eq_some_iff.mp H
       obtain ⟨t302, A170, H⟩ := H
       replace H : (if 7 + t302.size ≤ 9223372036854775807 then (if ((⟨#[109, 101, 108, 111, 100, 121, 32]⟩ : ByteArray) ++ t302).size + 31 ≤ 9223372036854775807 then ((impl_Execute.f kj14 (((⟨#[109, 101, 108, 111, 100, 121, 32]⟩ : ByteArray) ++ t302) ++ (⟨#[10, 109, 111, 100, 101, 10, 101, 110, 116, 101, 114, 32, 97, 118, 101, 10, 102, 105, 110, 100, 10, 101, 110, 116, 101, 114, 32, 97, 118, 101, 10]⟩ : ByteArray))).bind fun t303 => ((laws_digits.f kj14 t298).bind fun t304 => (if 3 + t304.size ≤ 9223372036854775807 then (if ((⟨#[111, 107, 10]⟩ : ByteArray) ++ t304).size + 4 ≤ 9223372036854775807 then (if (((⟨#[111, 107, 10]⟩ : ByteArray) ++ t304) ++ (⟨#[10, 111, 107, 10]⟩ : ByteArray)).size + x8_14.size ≤ 9223372036854775807 then (if ((((⟨#[111, 107, 10]⟩ : ByteArray) ++ t304) ++ (⟨#[10, 111, 107, 10]⟩ : ByteArray)) ++ x8_14).size + 3 ≤ 9223372036854775807 then ((laws_endLine.f kj14 (t295.length : Int) 1).bind fun t305 => (if (((((⟨#[111, 107, 10]⟩ : ByteArray) ++ t304) ++ (⟨#[10, 111, 107, 10]⟩ : ByteArray)) ++ x8_14) ++ (⟨#[110, 111, 10]⟩ : ByteArray)).size + t305.size ≤ 9223372036854775807 then (some (t303.toList == ((((((⟨#[111, 107, 10]⟩ : ByteArray) ++ t304) ++ (⟨#[10, 111, 107, 10]⟩ : ByteArray)) ++ x8_14) ++ (⟨#[110, 111, 10]⟩ : ByteArray)) ++ t305).toList)) else (none))) else (none)) else (none)) else (none)) else (none)))) else (none)) else (none)) = some r := H
       have A17 := am A170
       clear A170
       by_cases c18 : 7 + t302.size ≤ 9223372036854775807
       ·rw [if_pos c18] at H
        have c18b0 := eq_true c18
        have c18b1 : decide (7 + t302.size ≤ 9223372036854775807) = true := decide_eq_true c18
        try have c18b2 : (9223372036854775807 < 7 + t302.size) = False := eq_false (Nat.not_lt.2 c18)
        by_cases c19 : ((⟨#[109, 101, 108, 111, 100, 121, 32]⟩ : ByteArray) ++ t302).size + 31 ≤ 9223372036854775807
        ·rw [if_pos c19] at H
         have c19b0 := eq_true c19
         have c19b1 : decide (((⟨#[109, 101, 108, 111, 100, 121, 32]⟩ : ByteArray) ++ t302).size + 31 ≤ 9223372036854775807) = true := decide_eq_true c19
         try have c19b2 : (9223372036854775807 < ((⟨#[109, 101, 108, 111, 100, 121, 32]⟩ : ByteArray) ++ t302).size + 31) = False := eq_false (Nat.not_lt.2 c19)
         try have c19b4 : (9223372036854775807 < 7 + t302.size + 31) = False := eq_false (by have h_ := c19; simp only [ByteArray.size_append] at h_; have e0_ : (⟨#[109, 101, 108, 111, 100, 121, 32]⟩ : ByteArray).size = 7 := rfl; omega)
         replace H := Option.bind_eq_some_iff.mp H
         obtain ⟨t303, A200, H⟩ := H
         replace H : ((laws_digits.f kj14 t298).bind fun t304 => (if 3 + t304.size ≤ 9223372036854775807 then (if ((⟨#[111, 107, 10]⟩ : ByteArray) ++ t304).size + 4 ≤ 9223372036854775807 then (if (((⟨#[111, 107, 10]⟩ : ByteArray) ++ t304) ++ (⟨#[10, 111, 107, 10]⟩ : ByteArray)).size + x8_14.size ≤ 9223372036854775807 then (if ((((⟨#[111, 107, 10]⟩ : ByteArray) ++ t304) ++ (⟨#[10, 111, 107, 10]⟩ : ByteArray)) ++ x8_14).size + 3 ≤ 9223372036854775807 then ((laws_endLine.f kj14 (t295.length : Int) 1).bind fun t305 => (if (((((⟨#[111, 107, 10]⟩ : ByteArray) ++ t304) ++ (⟨#[10, 111, 107, 10]⟩ : ByteArray)) ++ x8_14) ++ (⟨#[110, 111, 10]⟩ : ByteArray)).size + t305.size ≤ 9223372036854775807 then (some (t303.toList == ((((((⟨#[111, 107, 10]⟩ : ByteArray) ++ t304) ++ (⟨#[10, 111, 107, 10]⟩ : ByteArray)) ++ x8_14) ++ (⟨#[110, 111, 10]⟩ : ByteArray)) ++ t305).toList)) else (none))) else (none)) else (none)) else (none)) else (none))) = some r := H
         have A20 := am A200
         clear A200
         replace H := Option.bind_eq_some_iff.mp H
         obtain ⟨t304, A210, H⟩ := H
         replace H : (if 3 + t304.size ≤ 9223372036854775807 then (if ((⟨#[111, 107, 10]⟩ : ByteArray) ++ t304).size + 4 ≤ 9223372036854775807 then (if (((⟨#[111, 107, 10]⟩ : ByteArray) ++ t304) ++ (⟨#[10, 111, 107, 10]⟩ : ByteArray)).size + x8_14.size ≤ 9223372036854775807 then (if ((((⟨#[111, 107, 10]⟩ : ByteArray) ++ t304) ++ (⟨#[10, 111, 107, 10]⟩ : ByteArray)) ++ x8_14).size + 3 ≤ 9223372036854775807 then ((laws_endLine.f kj14 (t295.length : Int) 1).bind fun t305 => (if (((((⟨#[111, 107, 10]⟩ : ByteArray) ++ t304) ++ (⟨#[10, 111, 107, 10]⟩ : ByteArray)) ++ x8_14) ++ (⟨#[110, 111, 10]⟩ : ByteArray)).size + t305.size ≤ 9223372036854775807 then (some (t303.toList == ((((((⟨#[111, 107, 10]⟩ : ByteArray) ++ t304) ++ (⟨#[10, 111, 107, 10]⟩ : ByteArray)) ++ x8_14) ++ (⟨#[110, 111, 10]⟩ : ByteArray)) ++ t305).toList)) else (none))) else (none)) else (none)) else (none)) else (none)) = some r := H
         have A21 := am A210
         clear A210
         by_cases c22 : 3 + t304.size ≤ 9223372036854775807
         ·rw [if_pos c22] at H
          have c22b0 := eq_true c22
          have c22b1 : decide (3 + t304.size ≤ 9223372036854775807) = true := decide_eq_true c22
          try have c22b2 : (9223372036854775807 < 3 + t304.size) = False := eq_false (Nat.not_lt.2 c22)
          by_cases c23 : ((⟨#[111, 107, 10]⟩ : ByteArray) ++ t304).size + 4 ≤ 9223372036854775807
          ·rw [if_pos c23] at H
           have c23b0 := eq_true c23
           have c23b1 : decide (((⟨#[111, 107, 10]⟩ : ByteArray) ++ t304).size + 4 ≤ 9223372036854775807) = true := decide_eq_true c23
           try have c23b2 : (9223372036854775807 < ((⟨#[111, 107, 10]⟩ : ByteArray) ++ t304).size + 4) = False := eq_false (Nat.not_lt.2 c23)
           try have c23b4 : (9223372036854775807 < 3 + t304.size + 4) = False := eq_false (by have h_ := c23; simp only [ByteArray.size_append] at h_; have e0_ : (⟨#[111, 107, 10]⟩ : ByteArray).size = 3 := rfl; omega)
           by_cases c24 : (((⟨#[111, 107, 10]⟩ : ByteArray) ++ t304) ++ (⟨#[10, 111, 107, 10]⟩ : ByteArray)).size + x8_14.size ≤ 9223372036854775807
           ·rw [if_pos c24] at H
            have c24b0 := eq_true c24
            have c24b1 : decide ((((⟨#[111, 107, 10]⟩ : ByteArray) ++ t304) ++ (⟨#[10, 111, 107, 10]⟩ : ByteArray)).size + x8_14.size ≤ 9223372036854775807) = true := decide_eq_true c24
            try have c24b2 : (9223372036854775807 < (((⟨#[111, 107, 10]⟩ : ByteArray) ++ t304) ++ (⟨#[10, 111, 107, 10]⟩ : ByteArray)).size + x8_14.size) = False := eq_false (Nat.not_lt.2 c24)
            try have c24b4 : (9223372036854775807 < 3 + t304.size + 4 + x8_14.size) = False := eq_false (by have h_ := c24; simp only [ByteArray.size_append] at h_; have e0_ : (⟨#[111, 107, 10]⟩ : ByteArray).size = 3 := rfl; have e1_ : (⟨#[10, 111, 107, 10]⟩ : ByteArray).size = 4 := rfl; omega)
            by_cases c25 : ((((⟨#[111, 107, 10]⟩ : ByteArray) ++ t304) ++ (⟨#[10, 111, 107, 10]⟩ : ByteArray)) ++ x8_14).size + 3 ≤ 9223372036854775807
            ·rw [if_pos c25] at H
             have c25b0 := eq_true c25
             have c25b1 : decide (((((⟨#[111, 107, 10]⟩ : ByteArray) ++ t304) ++ (⟨#[10, 111, 107, 10]⟩ : ByteArray)) ++ x8_14).size + 3 ≤ 9223372036854775807) = true := decide_eq_true c25
             try have c25b2 : (9223372036854775807 < ((((⟨#[111, 107, 10]⟩ : ByteArray) ++ t304) ++ (⟨#[10, 111, 107, 10]⟩ : ByteArray)) ++ x8_14).size + 3) = False := eq_false (Nat.not_lt.2 c25)
             try have c25b4 : (9223372036854775807 < 3 + t304.size + 4 + x8_14.size + 3) = False := eq_false (by have h_ := c25; simp only [ByteArray.size_append] at h_; have e0_ : (⟨#[111, 107, 10]⟩ : ByteArray).size = 3 := rfl; have e1_ : (⟨#[10, 111, 107, 10]⟩ : ByteArray).size = 4 := rfl; omega)
             replace H := Option.bind_eq_some_iff.mp H
             obtain ⟨t305, A260, H⟩ := H
             replace H : (if (((((⟨#[111, 107, 10]⟩ : ByteArray) ++ t304) ++ (⟨#[10, 111, 107, 10]⟩ : ByteArray)) ++ x8_14) ++ (⟨#[110, 111, 10]⟩ : ByteArray)).size + t305.size ≤ 9223372036854775807 then (some (t303.toList == ((((((⟨#[111, 107, 10]⟩ : ByteArray) ++ t304) ++ (⟨#[10, 111, 107, 10]⟩ : ByteArray)) ++ x8_14) ++ (⟨#[110, 111, 10]⟩ : ByteArray)) ++ t305).toList)) else (none)) = some r := H
             have A26 := am A260
             clear A260
             by_cases c27 : (((((⟨#[111, 107, 10]⟩ : ByteArray) ++ t304) ++ (⟨#[10, 111, 107, 10]⟩ : ByteArray)) ++ x8_14) ++ (⟨#[110, 111, 10]⟩ : ByteArray)).size + t305.size ≤ 9223372036854775807
             ·rw [if_pos c27] at H
              have c27b0 := eq_true c27
              have c27b1 : decide ((((((⟨#[111, 107, 10]⟩ : ByteArray) ++ t304) ++ (⟨#[10, 111, 107, 10]⟩ : ByteArray)) ++ x8_14) ++ (⟨#[110, 111, 10]⟩ : ByteArray)).size + t305.size ≤ 9223372036854775807) = true := decide_eq_true c27
              try have c27b2 : (9223372036854775807 < (((((⟨#[111, 107, 10]⟩ : ByteArray) ++ t304) ++ (⟨#[10, 111, 107, 10]⟩ : ByteArray)) ++ x8_14) ++ (⟨#[110, 111, 10]⟩ : ByteArray)).size + t305.size) = False := eq_false (Nat.not_lt.2 c27)
              try have c27b4 : (9223372036854775807 < 3 + t304.size + 4 + x8_14.size + 3 + t305.size) = False := eq_false (by have h_ := c27; simp only [ByteArray.size_append] at h_; have e0_ : (⟨#[111, 107, 10]⟩ : ByteArray).size = 3 := rfl; have e1_ : (⟨#[10, 111, 107, 10]⟩ : ByteArray).size = 4 := rfl; have e2_ : (⟨#[110, 111, 10]⟩ : ByteArray).size = 3 := rfl; omega)
              obtain rfl := Option.some.inj H
              go_wp2_with (first | ((with_reducible refine gate_callee (f := 8) rfl ?_); refine goesL_ (some 49) rfl rfl Tryz.func8 (by kernel_rfl) rfl #[.slice Ao8 t295.length co8] rfl (by (try simp only [List.map_toArray, List.map_cons, List.map_nil]); first | done | rfl | (simp only [List.length_drop, List.length_take]; rfl)) ?_; (with_reducible refine (impl_MelodyText.calls kj14 _ _ t295 t302 _ ?side1 ?side2 ?side3 A17.out).mono ?_); (case side1 => exact cu (Kd.R_reads' HO_3.out).2.2); (case side2 => exact (Kd.R_reads' HO_3.out).2.1); (case side3 => first | exact HTL.out | exact TabAt.below HTL.out (bu HB.out)); rintro e w28 ⟨rfl, hb⟩; refine ⟨_, rfl, ?_⟩; have n0_ := am (Kd.R_below (ru HO_3.out) hb); have n1_ := am (below_step (bu HB.out) hb); clear HO_3; clear HB; have HO_3 := n0_; have HB := n1_; clear n0_ n1_; (try clear hb); (try clear hb2); (try clear hk); (try clear hi)) | ((with_reducible refine gate_callee (f := 7) rfl ?_); refine goesL_ (some 52) rfl rfl Tryz.func7 (by kernel_rfl) rfl #[.string (((⟨#[109, 101, 108, 111, 100, 121, 32]⟩ : ByteArray) ++ t302) ++ (⟨#[10, 109, 111, 100, 101, 10, 101, 110, 116, 101, 114, 32, 97, 118, 101, 10, 102, 105, 110, 100, 10, 101, 110, 116, 101, 114, 32, 97, 118, 101, 10]⟩ : ByteArray))] rfl (by (try simp only [List.map_toArray, List.map_cons, List.map_nil]); first | done | rfl | (simp only [List.length_drop, List.length_take]; rfl)) ?_; (with_reducible refine (impl_Execute.calls kj14 (((⟨#[109, 101, 108, 111, 100, 121, 32]⟩ : ByteArray) ++ t302) ++ (⟨#[10, 109, 111, 100, 101, 10, 101, 110, 116, 101, 114, 32, 97, 118, 101, 10, 102, 105, 110, 100, 10, 101, 110, 116, 101, 114, 32, 97, 118, 101, 10]⟩ : ByteArray)) t303 _ ?side1 ?side2 ?side3 ?side4 A20.out).mono ?_); (case side1 => first | exact HTD.out | exact TabAt.below HTD.out (bu HB.out)); (case side2 => first | exact HTH.out | exact TabAt.below HTH.out (bu HB.out)); (case side3 => first | exact HTL.out | exact TabAt.below HTL.out (bu HB.out)); (case side4 => first | exact HTM.out | exact TabAt.below HTM.out (bu HB.out) | exact TabM.below HTM.out (bu HB.out) | (repeat (first | exact HTM.out | (with_reducible refine TabAt.drewN ?_ _) | (with_reducible refine TabAt.drew ?_) | (with_reducible refine TabAt.alloc ?_ _)))); rintro e w29 ⟨rfl, hb⟩; refine ⟨_, rfl, ?_⟩; have n0_ := am (Kd.R_below (ru HO_3.out) hb); have n1_ := am (below_step (bu HB.out) hb); clear HO_3; clear HB; have HO_3 := n0_; have HB := n1_; clear n0_ n1_; (try clear hb); (try clear hb2); (try clear hk); (try clear hi)) | ((with_reducible refine gate_callee (f := 9) rfl ?_); refine goesL_ (some 55) rfl rfl Tryz.func9 (by kernel_rfl) rfl #[.int .i64 t298] rfl (by (try simp only [List.map_toArray, List.map_cons, List.map_nil]); first | done | rfl | (simp only [List.length_drop, List.length_take]; rfl)) ?_; (with_reducible refine (laws_digits.calls kj14 t298 t304 _ A21.out).mono ?_); rintro e w30 ⟨rfl, hb⟩; refine ⟨_, rfl, ?_⟩; have n0_ := am (Kd.R_below (ru HO_3.out) hb); have n1_ := am (below_step (bu HB.out) hb); clear HO_3; clear HB; have HO_3 := n0_; have HB := n1_; clear n0_ n1_; (try clear hb); (try clear hb2); (try clear hk); (try clear hi)) | ((with_reducible refine gate_callee (f := 10) rfl ?_); refine goesL_ (some 63) rfl rfl Tryz.func10 (by kernel_rfl) rfl #[.int .i64 (t295.length : Int), .int .i64 1] rfl (by (try simp only [List.map_toArray, List.map_cons, List.map_nil]); first | done | rfl | (simp only [List.length_drop, List.length_take]; rfl)) ?_; (with_reducible refine (laws_endLine.calls kj14 (t295.length : Int) 1 t305 _ A26.out).mono ?_); rintro e w31 ⟨rfl, hb⟩; refine ⟨_, rfl, ?_⟩; have n0_ := am (Kd.R_below (ru HO_3.out) hb); have n1_ := am (below_step (bu HB.out) hb); clear HO_3; clear HB; have HO_3 := n0_; have HB := n1_; clear n0_ n1_; (try clear hb); (try clear hb2); (try clear hk); (try clear hi)))
              go_ret
              exact ⟨by first | rfl | (simp [errW_none, errW_some] <;> rfl) | (simp [*, errW_none, errW_some] <;> rfl), bu HB.out⟩
             ·rw [if_neg c27] at H
              exact absurd H (by simp)
            ·rw [if_neg c25] at H
             exact absurd H (by simp)
           ·rw [if_neg c24] at H
            exact absurd H (by simp)
          ·rw [if_neg c23] at H
           exact absurd H (by simp)
         ·rw [if_neg c22] at H
          exact absurd H (by simp)
        ·rw [if_neg c19] at H
         exact absurd H (by simp)
       ·rw [if_neg c18] at H
        exact absurd H (by simp)

end Go.Proofs.YtkdlfnakbilhjaaGreatDoor.XK
