-- Made by this session's gprint.py out of the translation. Not trusted: Lean checks it.
import Derived.Test.YtcndojoghmblaaaDoorShelf
import Derived.Test.YtcndojoghmblaaaDoorMJx0
import Derived.Test.YtcndojoghmblaaaDoorMJx2
import Derived.Test.YtcndojoghmblaaaDoorMJx4
import Derived.Test.YtcndojoghmblaaaDoorMJx5
import Derived.Test.YtcndojoghmblaaaDoorMJx6
import Derived.Test.YtcndojoghmblaaaDoorMJx7
namespace Go.Proofs.YtcndojoghmblaaaDoor.MJ
open Go.RowKit Go.Proofs.YtcndojoghmblaaaDoorW.PrintWords Go.Proofs.YtcndojoghmblaaaDoorW.PrintLast Go.Proofs.YtcndojoghmblaaaDoorW.PrintMore
attribute [local go_sem] max2_int min2_int max_two min_two max_three min_three max_four min_four   -- for this text's walks alone
set_option linter.unusedVariables false
set_option linter.unusedSimpArgs false

/-! ### MelodyText, by hand -/
theorem infoMS : (Tryd.prog.info? 9).map (fun i => (i.zero, i.size, i.bytes)) = some (some (.string ⟨#[]⟩), 1, 16) := by kernel_rfl
def ttx (t : S30) : ByteArray := (impl_Tone_text.f t.f0 t.f1).getD ⟨#[]⟩
def mjoin (xs : List ByteArray) : ByteArray := ⟨(Lib.join (xs.map (·.data.toList)) [32]).toArray⟩
def impl_MelodyText.f (n : Nat) (l0 : List S30) : Option ByteArray := (impl_MelodyValid.f n l0).bind fun ok => some (if ok = true then mjoin (l0.map ttx) else ⟨#[]⟩)
theorem impl_MelodyText.mono : ∀ a0 n, LeO (impl_MelodyText.f n a0) (impl_MelodyText.f (n + 1) a0) := by
 intro a0 n
 unfold impl_MelodyText.f
 exact LeO.bind (impl_MelodyValid.mono _ _) (fun _ => LeO.refl _)
theorem text_all : ∀ m, m < 21 → ∀ b : Bool, (impl_Tone_text.f ((m : Nat) : Int) b).isSome = true ∧ ((impl_Tone_text.f ((m : Nat) : Int) b).getD ⟨#[]⟩).size ≤ 3 := by decide +kernel
theorem text_some {a : Int} {b : Bool} (h0 : 0 ≤ a) (h1 : a ≤ 20) : impl_Tone_text.f a b = some ((impl_Tone_text.f a b).getD ⟨#[]⟩) ∧ ((impl_Tone_text.f a b).getD ⟨#[]⟩).size ≤ 3 := by
 obtain ⟨m, rfl⟩ := Int.eq_ofNat_of_zero_le h0
 obtain ⟨h2, h3⟩ := text_all m (by omega) b
 obtain ⟨v, hv⟩ := Option.isSome_iff_exists.1 h2
 exact ⟨by rw [hv]; rfl, h3⟩
theorem rdMt_at (l : List S30) (i : Nat) (h : i < l.length) : rd_T30 l (i : Int) = l[i] := by
 simp [rd_T30, List.getD_eq_getElem?_getD, h]
theorem mv_tone {s : Int} {b : Bool} (h : impl_Tone_valid.f s b = some true) : 0 ≤ s ∧ s ≤ 20 := by
 unfold impl_Tone_valid.f at h
 by_cases h0 : 0 ≤ s
 ·by_cases h1 : s ≤ 20
  ·exact ⟨h0, h1⟩
  ·simp [h0, h1] at h
 ·simp [h0] at h
theorem mv_l0 : ∀ (k : Nat) (l : List S30) (i : Nat), i ≤ l.length → l.length ≤ 24 → impl_MelodyValid.l0 k l (l.length : Int) (i : Int) = some true → ∀ j (h0 : j < l.length), i ≤ j → 0 ≤ l[j].f0 ∧ l[j].f0 ≤ 20 := by
 intro k
 induction k with
 | zero => intro l i hi hl h; simp [impl_MelodyValid.l0] at h
 | succ k ih =>
  intro l i hi hl h j h0 hij
  have hlt : i < l.length := by omega
  simp only [impl_MelodyValid.l0] at h
  rw [if_pos (by omega), if_pos (by omega), if_pos (by omega), rdMt_at l i hlt] at h
  obtain ⟨v, hv, h⟩ := Option.bind_eq_some_iff.mp h
  cases v with
  | false => rw [if_neg (by decide)] at h; exact absurd h (by simp)
  | true =>
   rw [if_pos rfl, show wrap64 ((i : Int) + 1) = ((i + 1 : Nat) : Int) by unfold wrap64; omega] at h
   by_cases e : j = i
   ·subst e
    exact mv_tone hv
   ·exact ih l (i + 1) (by omega) hl h j h0 (by omega)
theorem mv_facts {k : Nat} {l : List S30} (h : impl_MelodyValid.f k l = some true) : l.length ≤ 24 ∧ ∀ t ∈ l, 0 ≤ t.f0 ∧ t.f0 ≤ 20 := by
 unfold impl_MelodyValid.f at h
 by_cases hl : (l.length : Int) > 24
 ·rw [if_pos hl] at h
  exact absurd h (by simp)
 ·rw [if_neg hl] at h
  refine ⟨by omega, fun t ht => ?_⟩
  obtain ⟨j, hj, rfl⟩ := List.getElem_of_mem ht
  exact mv_l0 k l 0 (Nat.zero_le _) (by omega) h j hj (Nat.zero_le _)
theorem mt_lens : ∀ (xs : List (List UInt8)), (∀ x ∈ xs, x.length ≤ 3) → Lib.lens xs ≤ 3 * xs.length
 | [], _ => by simp [Lib.lens]
 | x :: xs, h => by
  have ih := mt_lens xs (fun z hz => h z (List.mem_cons_of_mem _ hz))
  have := h x (List.mem_cons_self ..)
  simp only [Lib.lens, List.map_cons, List.sum_cons, List.length_cons] at ih ⊢
  omega
theorem mt_join (xs : List (List UInt8)) (h : ∀ x ∈ xs, x.length ≤ 3) : (Lib.join xs [32]).length ≤ 4 * xs.length := by
 cases xs with
 | nil => simp [Lib.join_nil]
 | cons x r =>
  have h1 := h x (List.mem_cons_self ..)
  have h2 := mt_lens r (fun z hz => h z (List.mem_cons_of_mem _ hz))
  rw [Lib.join_cons, List.length_append, Lib.joinTail_length, List.length_cons, List.length_cons, List.length_nil]
  omega
theorem mt_small (l : List S30) (h : ∀ t ∈ l, 0 ≤ t.f0 ∧ t.f0 ≤ 20) : (Lib.join ((l.map ttx).map (·.data.toList)) [32]).length ≤ 4 * l.length := by
 have := mt_join ((l.map ttx).map (·.data.toList)) (by
  intro x hx
  obtain ⟨b, hb, rfl⟩ := List.mem_map.1 hx
  obtain ⟨t, ht, rfl⟩ := List.mem_map.1 hb
  exact (text_some (h t ht).1 (h t ht).2).2)
 rw [List.length_map, List.length_map] at this
 exact this
theorem mt_strs {w : World} {g n : Nat} {xs : List ByteArray} (h : Kd.string.C w (some ⟨g, 0, none⟩) n xs) (hn : n = xs.length) (j : Nat) (x : ByteArray) (hx : xs[j]? = some x) : w.cell? ⟨g, 0 + j, none⟩ = some (.string x) := by
 obtain ⟨hj, rfl⟩ := List.getElem?_eq_some_iff.1 hx
 obtain ⟨ad, e, hc⟩ := Kd.at_string h (j : Int) (by omega) (by omega)
 obtain rfl : (⟨g, 0, none⟩ : Addr) = ad := by injection e
 rw [Int.toNat_natCast] at hc
 rw [Nat.zero_add, ← add_plain, hc]
 simp [rdOf, List.getD_eq_getElem?_getD, hj]
theorem mt_empty {α : Type} (d : Kd α) (e : Nat) {W : World} {g base : Nat} (ok : Nat → Prop) (hok : ok g) (h : W.heap[g]? = some (.cells #[] e (0, 0))) (hb : base ≤ g) : d.R e W base ok (.slice (some ⟨g, 0, none⟩) 0 0) ([] : List α) :=
 ⟨fun k hk => by
  simp [Value.ownBlock] at hk
  subst hk
  exact hok, [], ⟨by simp, .inr ⟨g, 0, #[], rfl, hb, h, Nat.le_refl _, by simp [maxLen], by simp, by simp⟩⟩, Reps.none _ _⟩
theorem mt_grown {w w1 : World} {base : Nat} {ok : Nat → Prop} {v : Value} {xs : List ByteArray} (HO : Kd.R Kd.string 9 w base ok v xs) (hg : w.grownBy w1 v.ownBlock) : ∀ {ts : List S30} {p : Option Addr}, IsList w p ts → IsList w1 p ts
 | [], _, h => h
 | t :: ts, p, h => by
  obtain ⟨g, q, rfl, hk, hr⟩ := h
  exact ⟨g, q, rfl, blk_grown hk hg (Kd.R_ne HO hk (by decide)), mt_grown HO hg hr⟩
set_option maxHeartbeats 8000000 in
set_option maxRecDepth 100000 in
theorem melText_yes (n : Nat) (A0 : Option Addr) (c0 : Nat) (l0 : List S30) (w : World) (hr0 : Kd.C k30 w A0 l0.length l0) (hc0 : l0.length ≤ c0) (hTL : TabL w) (h : impl_MelodyValid.f n l0 = some true) :
  Calls Tryd.prog 51 #[.slice A0 l0.length c0] w fun e w' => e = .returned (.string (mjoin (l0.map ttx))) ∧ Below w.heap.size w w' := by
 obtain ⟨hl, hf⟩ := mv_facts h
 have hu1 := Tryd.underlying137
 have hu2 := Tryd.underlying30
 have HR0 := am hr0
 have HC0 := am hc0
 have HTL := am hTL
 have H := am h
 have HF := am hf
 clear hr0 hc0 hTL h hf
 go_enter Tryd.func51, Tryd.ntmps51
 go_wp2_with fail
 refine (impl_MelodyValid.calls n A0 c0 l0 true _ HR0.out HC0.out H.out).mono ?_
 rintro e w1 ⟨rfl, hb⟩
 have HB1 := am hb
 have HS1 := am hb.size
 clear hb
 go_wp2_with fail
 have HZ1 := am (blk_new w1 (.cells #[] 9))
 have HB2 := am (below_alloc HB1.out (.cells #[] 9))
 refine (linked_any A0 c0 l0 _ (Kd.C_below HR0.out HB2.out) HC0.out (by omega)).mono ?_
 rintro e w2 ⟨p, rfl, hL, hb⟩
 have HB3 := am (below_step HB2.out hb)
 have HL1 := am hL
 have HZ2 := am (blk_below HZ1.out hb)
 clear hb hL HB1 HB2 HZ1
 go_wp2_with fail
 go_loopg [3, 4] l0.length (fun kq v3 v4 w' => ∃ (i : Nat) (p : Option Addr), v4 = .pointer p ∧ Aside0 (i ≤ l0.length ∧ kq = l0.length - i) ∧ Aside0 (IsList w' p (l0.drop i)) ∧ Aside0 (Kd.R Kd.string 9 w' w.heap.size (fun _ => True) v3 ((l0.take i).map ttx)) ∧ Aside0 (Below w.heap.size w w'))
 case atStart => exact ⟨0, p, rfl, ⟨by omega, by omega⟩, ⟨by simpa using HL1.out⟩, ⟨mt_empty _ _ _ trivial HZ2.out HS1.out⟩, HB3⟩
 case round =>
  obtain ⟨i, q, rfl, HI, HL, HO, HB⟩ := hrel
  clear HZ2 HL1 HB3
  by_cases hin : i < l0.length
  ·obtain ⟨t, ht⟩ : ∃ t, t = l0[i] := ⟨_, rfl⟩
   have hL := HL.out
   rw [List.drop_eq_getElem_cons hin, ← ht] at hL
   obtain ⟨g, q', rfl, hg, hR⟩ := hL
   have HT := am (HF.out t (by rw [ht]; exact List.getElem_mem hin))
   have HTT := am (text_some (b := t.f1) HT.out.1 HT.out.2).1
   have HSN := am (show (l0.take (i + 1)).map ttx = (l0.take i).map ttx ++ [ttx t] by rw [List.take_succ_eq_append_getElem hin, List.map_append, ← ht]; rfl)
   have HG0 := am hg
   have HLR := am hR
   have k0 : wr.cell? ⟨g, 0, none⟩ = some (.int .i64 t.f0) := blk_cell hg 0
   have k1 : wr.cell? ⟨g, 1, none⟩ = some (.bool t.f1) := blk_cell hg 1
   obtain ⟨tx, htx⟩ : ∃ tx, tx = ttx t := ⟨_, rfl⟩
   have HTX := am (show impl_Tone_text.f t.f0 t.f1 = some tx by rw [htx]; exact HTT.out)
   rw [← htx] at HSN
   obtain ⟨xs, hxs⟩ : ∃ xs, xs = (l0.take i).map ttx := ⟨_, rfl⟩
   have HXL := am (show xs.length ≤ 24 by rw [hxs, List.length_map, List.length_take]; omega)
   rw [← hxs] at HSN HO
   clear ht hg hR htx hxs HTT HL
   go_wp2_with fail
   refine (impl_Tone_text.calls t.f0 t.f1 tx _ (TabAt.below HTL.out HB.out) HTX.out).mono ?_
   rintro e w5 ⟨rfl, hb⟩
   have HG5 := am (blk_below HG0.out hb)
   have HLR5 := am (IsList.below hb HLR.out)
   have HO5 := am (Kd.R_below HO.out hb)
   have HB5 := am (below_step HB.out hb)
   clear hb HO HB HLR HG0 k0 k1
   go_wp2_with (first | ((with_reducible refine gate_builtin (b := .append) (xs := #[.tmp 17, .tmp 23]) rfl ?_); at_builtin; refine Kd.R_append Kd.string (w0 := w) w.heap.size rfl (.tmp 17) (.tmp 23) 69 9 (.string ⟨#[]⟩) 16 rfl Tryd.underlying69 infoMS rfl (by decide) (by omega) u3 xs tx [.string tx] (fun _ => True) (fun _ => False) rfl rfl ?aP (fun _ hk => hk.elim) ?aF ?aO ?aB ?aS ?aL ?_; (case aP => exact rfl); (case aF => exact (fun _ _ => trivial)); (case aO => exact HO5.out); (case aB => exact HB5.out); (case aS => exact (below_size HB5.out)); (case aL => have := HXL.out; omega); intro v1 w6 ho hb hg hat; have n0 : w6.cell? ⟨g, 2, none⟩ = some (.pointer q') := blk_cell (blk_grown HG5.out hg (Kd.R_ne HO5.out HG5.out (by decide))) 2; have HO6 := am ho; have HB6 := am hb; have HL6 := am (mt_grown HO5.out hg HLR5.out); clear ho hb hg hat))
   go_roundg (l0.length - (i + 1))
   case measure => have := HI.out; omega
   case rel => exact ⟨i + 1, q', rfl, ⟨by omega, rfl⟩, HL6, ⟨by rw [HSN.out]; exact HO6.out⟩, HB6⟩
  ·have ei : i = l0.length := by have := HI.out; omega
   subst ei
   have hL := HL.out
   rw [List.drop_eq_nil_of_le (Nat.le_refl _)] at hL
   obtain rfl : q = none := hL
   have ho := HO.out
   rw [List.take_of_length_le (Nat.le_refl _)] at ho
   by_cases hz : l0.length = 0
   ·obtain ⟨A5, c5, rfl⟩ := Kd.R_slice ho
    obtain rfl : l0 = [] := List.eq_nil_of_length_eq_zero hz
    clear ho
    go_wp2_with fail
    refine (Tryd.strings_Join_none A5 c5 ⟨#[32]⟩ _).mono ?_
    rintro e w9 ⟨rfl, rfl⟩
    go_wp2_with fail
    go_ret
    exact ⟨rfl, HB.out⟩
   ·obtain ⟨g5, c5, rfl, _, hg5, _⟩ := Kd.R_form ho (by rw [List.length_map]; omega)
    have HG9 := am hg5
    have HC9 := am (Kd.R_reads' ho)
    have HSM := am (mt_small l0 HF.out)
    clear ho hg5
    obtain ⟨xs, hxs⟩ : ∃ xs, xs = l0.map ttx := ⟨_, rfl⟩
    have HXL := am (show xs.length = l0.length by rw [hxs, List.length_map])
    rw [← hxs] at HC9 HSM ⊢
    have HXS := am hxs
    clear hxs
    go_wp2_with fail
    refine (Tryd.strings_Join g5 0 c5 xs ⟨#[32]⟩ _ (fun j x hx => mt_strs HC9.out.2.2 rfl j x hx) HG9.out (by have := HXL.out; omega) HC9.out.2.1 (by have := HSM.out; exact Nat.le_trans this (by omega))).mono ?_
    rintro e w9 ⟨rfl, hb9⟩
    have HB9 := am (below_step HB.out hb9)
    clear hb9
    go_wp2_with fail
    go_ret
    exact ⟨by rw [← HXS.out]; rfl, HB9.out⟩
theorem impl_MelodyText.calls (n : Nat) (A0 : Option Addr) (c0 : Nat) (l0 : List S30) (r : ByteArray) (w : World) (hr0 : Kd.C k30 w A0 l0.length l0) (hc0 : l0.length ≤ c0) (hTL : TabL w) (h : impl_MelodyText.f n l0 = some r) :
  Calls Tryd.prog 51 #[.slice A0 l0.length c0] w fun e w' => e = .returned (.string r) ∧ Below w.heap.size w w' := by
 unfold impl_MelodyText.f at h
 obtain ⟨b, hb, h⟩ := Option.bind_eq_some_iff.mp h
 have h := Option.some.inj h
 cases b with
 | true =>
  rw [if_pos rfl] at h
  rw [← h]
  exact melText_yes n A0 c0 l0 w hr0 hc0 hTL hb
 | false =>
  rw [if_neg (by decide)] at h
  rw [← h]
  clear h
  have HR0 := am hr0
  have HC0 := am hc0
  have H := am hb
  clear hr0 hc0 hb hTL
  go_enter Tryd.func51, Tryd.ntmps51
  go_wp2_with fail
  refine (impl_MelodyValid.calls n A0 c0 l0 false _ HR0.out HC0.out H.out).mono ?_
  rintro e w1 ⟨rfl, hb⟩
  have HB1 := am hb
  clear hb
  go_wp2_with fail
  go_ret
  exact ⟨rfl, HB1.out⟩


/-! ### laws_FnMelodyJoin: function 10 -/
mutual
def laws_FnMelodyJoin.j0 : Nat → List (S30) → List (S30) → List (S30) → Bool → List (S30) → Bool → Bool → Option (Bool)
 | 0, _, _, _, _, _, _, _ => none
 | k + 1, x3, x4, x5, x6, x7, x8, x49 => if x49 = true then (if (x6 == x8) = true then ((laws_sameTones.f k x5 x7).bind fun t228 => (some t228)) else (some false)) else ((impl_SingBest.f k x3).bind fun bt229 => ((impl_SingBest.f k x4).bind fun bt233 => ((impl_SingBest.f k x5).bind fun bt237 => ((impl_SingMany.f k x5).bind fun t241 => ((impl_SingMany.f k x3).bind fun t242 => ((impl_SingMany.f k x4).bind fun t243 => (if t241 = (wrap64 (t242 * t243)) then (if bt229.2 = true then (laws_FnMelodyJoin.j1 k x3 x4 x5 bt229.1 bt233.1 bt237.1 bt237.2 (bt237.2 != bt233.2)) else (laws_FnMelodyJoin.j1 k x3 x4 x5 bt229.1 bt233.1 bt237.1 bt237.2 (bt237.2 != false))) else (laws_FnMelodyJoin.j1 k x3 x4 x5 bt229.1 bt233.1 bt237.1 bt237.2 true))))))))
def laws_FnMelodyJoin.j1 : Nat → List (S30) → List (S30) → List (S30) → List Int → List Int → List Int → Bool → Bool → Option (Bool)
 | 0, _, _, _, _, _, _, _, _ => none
 | k + 1, x3, x4, x5, x9, x11, x13, x14, x88 => if x88 = true then (some false) else (if (x3.length : Int) > 0 then (if (x4.length : Int) > 0 then ((impl_MelodyText.f k x5).bind fun t244 => ((impl_MelodyText.f k x3).bind fun t245 => (if t245.size + 1 ≤ 9223372036854775807 then ((impl_MelodyText.f k x4).bind fun t246 => (if (t245 ++ (⟨#[32]⟩ : ByteArray)).size + t246.size ≤ 9223372036854775807 then (laws_FnMelodyJoin.j2 k x3 x4 x5 x9 x11 x13 x14 (t244.toList != ((t245 ++ (⟨#[32]⟩ : ByteArray)) ++ t246).toList)) else (none))) else (none)))) else (laws_FnMelodyJoin.j2 k x3 x4 x5 x9 x11 x13 x14 false)) else (laws_FnMelodyJoin.j2 k x3 x4 x5 x9 x11 x13 x14 false))
def laws_FnMelodyJoin.j2 : Nat → List (S30) → List (S30) → List (S30) → List Int → List Int → List Int → Bool → Bool → Option (Bool)
 | 0, _, _, _, _, _, _, _, _ => none
 | k + 1, x3, x4, x5, x9, x11, x13, x14, x107 => if x107 = true then (some false) else ((impl_SingMutations.f k x5 x13).bind fun t247 => ((impl_SingMutations.f k x3 x9).bind fun t248 => ((impl_SingMutations.f k x4 x11).bind fun t249 => (if x14 = true then (if t247 ≥ (wrap64 (t248 + t249)) then (some (decide (t247 ≤ (wrap64 ((wrap64 (t248 + t249)) + 1))))) else (some false)) else (some true)))))
end
def laws_FnMelodyJoin.f (k : Nat) (l0 : List Int) : Option (Bool) := if (l0.length : Int) > 1048576 then (some true) else ((spec_DrawMelodyJoin.f k l0).bind fun bt213 => ((impl_MelodyJoin.f k bt213.1 bt213.2).bind fun bt219 => ((spec_MelodyJoin.f k bt213.1 bt213.2).bind fun bt223 => (if (bt219.2 != bt223.2) = true then (laws_FnMelodyJoin.j0 k bt213.1 bt213.2 bt219.1 bt219.2 bt223.1 bt223.2 true) else ((laws_sameTones.f k bt219.1 bt223.1).bind fun t227 => (if t227 = true then (laws_FnMelodyJoin.j0 k bt213.1 bt213.2 bt219.1 bt219.2 bt223.1 bt223.2 (!bt219.2)) else (laws_FnMelodyJoin.j0 k bt213.1 bt213.2 bt219.1 bt219.2 bt223.1 bt223.2 true)))))))
theorem laws_FnMelodyJoin.mono_l : ∀ k, (∀ y0 y1 y2 y3 y4 y5 y6, LeO (laws_FnMelodyJoin.j0 k y0 y1 y2 y3 y4 y5 y6) (laws_FnMelodyJoin.j0 (k + 1) y0 y1 y2 y3 y4 y5 y6)) ∧ (∀ y0 y1 y2 y3 y4 y5 y6 y7, LeO (laws_FnMelodyJoin.j1 k y0 y1 y2 y3 y4 y5 y6 y7) (laws_FnMelodyJoin.j1 (k + 1) y0 y1 y2 y3 y4 y5 y6 y7)) ∧ (∀ y0 y1 y2 y3 y4 y5 y6 y7, LeO (laws_FnMelodyJoin.j2 k y0 y1 y2 y3 y4 y5 y6 y7) (laws_FnMelodyJoin.j2 (k + 1) y0 y1 y2 y3 y4 y5 y6 y7))
 | 0 => ⟨fun _ _ _ _ _ _ _ r h => by simp [laws_FnMelodyJoin.j0] at h, fun _ _ _ _ _ _ _ _ r h => by simp [laws_FnMelodyJoin.j1] at h, fun _ _ _ _ _ _ _ _ r h => by simp [laws_FnMelodyJoin.j2] at h⟩
 | k + 1 => by
  obtain ⟨ih0, ih1, ih2⟩ := laws_FnMelodyJoin.mono_l k
  refine ⟨?_, ?_, ?_⟩
  ·intro y0 y1 y2 y3 y4 y5 y6
   unfold laws_FnMelodyJoin.j0
   repeat' first
   | (with_reducible exact ih0 _ _ _ _ _ _ _)
   | (with_reducible exact ih1 _ _ _ _ _ _ _ _)
   | (with_reducible exact ih2 _ _ _ _ _ _ _ _)
   | (with_reducible exact impl_MelodyJoin.mono _ _ _)
   | (with_reducible exact impl_MelodyText.mono _ _)
   | (with_reducible exact impl_SingBest.mono _ _)
   | (with_reducible exact impl_SingMany.mono _ _)
   | (with_reducible exact impl_SingMutations.mono _ _ _)
   | (with_reducible exact laws_sameTones.mono _ _ _)
   | (with_reducible exact spec_DrawMelodyJoin.mono _ _)
   | (with_reducible exact spec_MelodyJoin.mono _ _ _)
   | (with_reducible exact LeO.refl _)
   | (with_reducible exact LeO.none _)
   | (with_reducible refine LeO.ite ?_ ?_)
   | (with_reducible refine LeO.bind ?_ (fun _ => ?_))
   | exact ih0 _ _ _ _ _ _ _
   | exact ih1 _ _ _ _ _ _ _ _
   | exact ih2 _ _ _ _ _ _ _ _
   | exact impl_MelodyJoin.mono _ _ _
   | exact impl_MelodyText.mono _ _
   | exact impl_SingBest.mono _ _
   | exact impl_SingMany.mono _ _
   | exact impl_SingMutations.mono _ _ _
   | exact laws_sameTones.mono _ _ _
   | exact spec_DrawMelodyJoin.mono _ _
   | exact spec_MelodyJoin.mono _ _ _
   | exact LeO.none _
   | refine LeO.ite ?_ ?_
   | refine LeO.bind ?_ (fun _ => ?_)
  ·intro y0 y1 y2 y3 y4 y5 y6 y7
   unfold laws_FnMelodyJoin.j1
   repeat' first
   | (with_reducible exact ih0 _ _ _ _ _ _ _)
   | (with_reducible exact ih1 _ _ _ _ _ _ _ _)
   | (with_reducible exact ih2 _ _ _ _ _ _ _ _)
   | (with_reducible exact impl_MelodyJoin.mono _ _ _)
   | (with_reducible exact impl_MelodyText.mono _ _)
   | (with_reducible exact impl_SingBest.mono _ _)
   | (with_reducible exact impl_SingMany.mono _ _)
   | (with_reducible exact impl_SingMutations.mono _ _ _)
   | (with_reducible exact laws_sameTones.mono _ _ _)
   | (with_reducible exact spec_DrawMelodyJoin.mono _ _)
   | (with_reducible exact spec_MelodyJoin.mono _ _ _)
   | (with_reducible exact LeO.refl _)
   | (with_reducible exact LeO.none _)
   | (with_reducible refine LeO.ite ?_ ?_)
   | (with_reducible refine LeO.bind ?_ (fun _ => ?_))
   | exact ih0 _ _ _ _ _ _ _
   | exact ih1 _ _ _ _ _ _ _ _
   | exact ih2 _ _ _ _ _ _ _ _
   | exact impl_MelodyJoin.mono _ _ _
   | exact impl_MelodyText.mono _ _
   | exact impl_SingBest.mono _ _
   | exact impl_SingMany.mono _ _
   | exact impl_SingMutations.mono _ _ _
   | exact laws_sameTones.mono _ _ _
   | exact spec_DrawMelodyJoin.mono _ _
   | exact spec_MelodyJoin.mono _ _ _
   | exact LeO.none _
   | refine LeO.ite ?_ ?_
   | refine LeO.bind ?_ (fun _ => ?_)
  ·intro y0 y1 y2 y3 y4 y5 y6 y7
   unfold laws_FnMelodyJoin.j2
   repeat' first
   | (with_reducible exact ih0 _ _ _ _ _ _ _)
   | (with_reducible exact ih1 _ _ _ _ _ _ _ _)
   | (with_reducible exact ih2 _ _ _ _ _ _ _ _)
   | (with_reducible exact impl_MelodyJoin.mono _ _ _)
   | (with_reducible exact impl_MelodyText.mono _ _)
   | (with_reducible exact impl_SingBest.mono _ _)
   | (with_reducible exact impl_SingMany.mono _ _)
   | (with_reducible exact impl_SingMutations.mono _ _ _)
   | (with_reducible exact laws_sameTones.mono _ _ _)
   | (with_reducible exact spec_DrawMelodyJoin.mono _ _)
   | (with_reducible exact spec_MelodyJoin.mono _ _ _)
   | (with_reducible exact LeO.refl _)
   | (with_reducible exact LeO.none _)
   | (with_reducible refine LeO.ite ?_ ?_)
   | (with_reducible refine LeO.bind ?_ (fun _ => ?_))
   | exact ih0 _ _ _ _ _ _ _
   | exact ih1 _ _ _ _ _ _ _ _
   | exact ih2 _ _ _ _ _ _ _ _
   | exact impl_MelodyJoin.mono _ _ _
   | exact impl_MelodyText.mono _ _
   | exact impl_SingBest.mono _ _
   | exact impl_SingMany.mono _ _
   | exact impl_SingMutations.mono _ _ _
   | exact laws_sameTones.mono _ _ _
   | exact spec_DrawMelodyJoin.mono _ _
   | exact spec_MelodyJoin.mono _ _ _
   | exact LeO.none _
   | refine LeO.ite ?_ ?_
   | refine LeO.bind ?_ (fun _ => ?_)
theorem laws_FnMelodyJoin.mono : ∀ a0 k, LeO (laws_FnMelodyJoin.f k a0) (laws_FnMelodyJoin.f (k + 1) a0) := by
 intro a0 k
 obtain ⟨ih0, ih1, ih2⟩ := laws_FnMelodyJoin.mono_l k
 unfold laws_FnMelodyJoin.f
 repeat' first
   | (with_reducible exact ih0 _ _ _ _ _ _ _)
   | (with_reducible exact ih1 _ _ _ _ _ _ _ _)
   | (with_reducible exact ih2 _ _ _ _ _ _ _ _)
   | (with_reducible exact impl_MelodyJoin.mono _ _ _)
   | (with_reducible exact impl_MelodyText.mono _ _)
   | (with_reducible exact impl_SingBest.mono _ _)
   | (with_reducible exact impl_SingMany.mono _ _)
   | (with_reducible exact impl_SingMutations.mono _ _ _)
   | (with_reducible exact laws_sameTones.mono _ _ _)
   | (with_reducible exact spec_DrawMelodyJoin.mono _ _)
   | (with_reducible exact spec_MelodyJoin.mono _ _ _)
   | (with_reducible exact LeO.refl _)
   | (with_reducible exact LeO.none _)
   | (with_reducible refine LeO.ite ?_ ?_)
   | (with_reducible refine LeO.bind ?_ (fun _ => ?_))
   | exact ih0 _ _ _ _ _ _ _
   | exact ih1 _ _ _ _ _ _ _ _
   | exact ih2 _ _ _ _ _ _ _ _
   | exact impl_MelodyJoin.mono _ _ _
   | exact impl_MelodyText.mono _ _
   | exact impl_SingBest.mono _ _
   | exact impl_SingMany.mono _ _
   | exact impl_SingMutations.mono _ _ _
   | exact laws_sameTones.mono _ _ _
   | exact spec_DrawMelodyJoin.mono _ _
   | exact spec_MelodyJoin.mono _ _ _
   | exact LeO.none _
   | refine LeO.ite ?_ ?_
   | refine LeO.bind ?_ (fun _ => ?_)
set_option maxHeartbeats 8000000 in
set_option maxRecDepth 100000 in
theorem laws_FnMelodyJoin.calls (k : Nat) (A0 : Option Addr) (c0 : Nat) (l0 : List Int) (r : Bool) (w : World) (hr0 : Kd.C (Kd.int .u8) w A0 l0.length l0) (hc0 : l0.length ≤ c0) (hTL : TabL w) (h : laws_FnMelodyJoin.f k l0 = some r) :
  Calls Tryd.prog 10 #[.slice A0 l0.length c0] w fun e w' => e = .returned (.bool r) ∧ Below w.heap.size w w' := by
 have HTL := am hTL
 clear hTL
 have HR0 := am hr0
 have HC0 := am hc0
 clear hr0 hc0
 have HB := am (Below.refl w.heap.size w)
 have H : (if (l0.length : Int) > 1048576 then (some true) else ((spec_DrawMelodyJoin.f k l0).bind fun bt213 => ((impl_MelodyJoin.f k bt213.1 bt213.2).bind fun bt219 => ((spec_MelodyJoin.f k bt213.1 bt213.2).bind fun bt223 => (if (bt219.2 != bt223.2) = true then (laws_FnMelodyJoin.j0 k bt213.1 bt213.2 bt219.1 bt219.2 bt223.1 bt223.2 true) else ((laws_sameTones.f k bt219.1 bt223.1).bind fun t227 => (if t227 = true then (laws_FnMelodyJoin.j0 k bt213.1 bt213.2 bt219.1 bt219.2 bt223.1 bt223.2 (!bt219.2)) else (laws_FnMelodyJoin.j0 k bt213.1 bt213.2 bt219.1 bt219.2 bt223.1 bt223.2 true)))))))) = some r := h
 clear h
 by_cases c2 : (l0.length : Int) > 1048576
 ·rw [if_pos c2] at H
  have c2b0 : decide (1048576 < (l0.length : Int)) = true := decide_eq_true c2
  have c2b1 : decide (1048576 < l0.length) = true := decide_eq_true (by omega)
  clear c2
  obtain rfl := Option.some.inj H
  go_enter Tryd.func10, Tryd.ntmps10
  go_wp2
  go_ret
  exact ⟨by first | rfl | (simp [errW_none, errW_some] <;> rfl) | (simp [*, errW_none, errW_some] <;> rfl), bu HB.out⟩
 ·rw [if_neg c2] at H
  have c2b0 : decide (1048576 < (l0.length : Int)) = false := decide_eq_false c2
  have c2b1 : decide (1048576 < l0.length) = false := decide_eq_false (by omega)
  clear c2
  replace H := Option.bind_eq_some_iff.mp H
  obtain ⟨⟨t213, t214⟩, A30, H⟩ := H
  replace H : ((impl_MelodyJoin.f k t213 t214).bind fun bt219 => ((spec_MelodyJoin.f k t213 t214).bind fun bt223 => (if (bt219.2 != bt223.2) = true then (laws_FnMelodyJoin.j0 k t213 t214 bt219.1 bt219.2 bt223.1 bt223.2 true) else ((laws_sameTones.f k bt219.1 bt223.1).bind fun t227 => (if t227 = true then (laws_FnMelodyJoin.j0 k t213 t214 bt219.1 bt219.2 bt223.1 bt223.2 (!bt219.2)) else (laws_FnMelodyJoin.j0 k t213 t214 bt219.1 bt219.2 bt223.1 bt223.2 true)))))) = some r := H
  have A3 := am A30
  clear A30
  replace H := Option.bind_eq_some_iff.mp H
  obtain ⟨⟨t219, t220⟩, A40, H⟩ := H
  replace H : ((spec_MelodyJoin.f k t213 t214).bind fun bt223 => (if (t220 != bt223.2) = true then (laws_FnMelodyJoin.j0 k t213 t214 t219 t220 bt223.1 bt223.2 true) else ((laws_sameTones.f k t219 bt223.1).bind fun t227 => (if t227 = true then (laws_FnMelodyJoin.j0 k t213 t214 t219 t220 bt223.1 bt223.2 (!t220)) else (laws_FnMelodyJoin.j0 k t213 t214 t219 t220 bt223.1 bt223.2 true))))) = some r := H
  have A4 := am A40
  clear A40
  replace H := Option.bind_eq_some_iff.mp H
  obtain ⟨⟨t223, t224⟩, A50, H⟩ := H
  replace H : (if (t220 != t224) = true then (laws_FnMelodyJoin.j0 k t213 t214 t219 t220 t223 t224 true) else ((laws_sameTones.f k t219 t223).bind fun t227 => (if t227 = true then (laws_FnMelodyJoin.j0 k t213 t214 t219 t220 t223 t224 (!t220)) else (laws_FnMelodyJoin.j0 k t213 t214 t219 t220 t223 t224 true)))) = some r := H
  have A5 := am A50
  clear A50
  have HC6 := am H
  clear H
  go_enter Tryd.func10, Tryd.ntmps10
  go_upto_region 6 with (first | ((with_reducible refine gate_callee (f := 47) rfl ?_); refine goesL_ (some 22) rfl rfl Tryd.func47 (by kernel_rfl) rfl #[.slice A0 l0.length c0] rfl (by (try simp only [List.map_toArray, List.map_cons, List.map_nil]); first | done | rfl | (simp only [List.length_drop, List.length_take]; rfl)) ?_; (with_reducible refine (spec_DrawMelodyJoin.calls k _ _ l0 t213 t214 _ ?side1 ?side2 A3.out).mono ?_); (case side1 => exact cu HR0.out); (case side2 => exact HC0.out); rintro e w7 ⟨v215, v217, rfl, ho0, ho1, hb⟩; refine ⟨_, rfl, ?_⟩; have n0_ := am (Kd.R_lower ho0 (below_size (bu HB.out))); have n1_ := am (Kd.R_lower ho1 (below_size (bu HB.out))); have n2_ := am (below_step (bu HB.out) hb); clear HB; have HO216 := n0_; have HO218 := n1_; have HB := n2_; clear n0_ n1_ n2_; (try clear hb); (try clear hb2); (try clear hk); (try clear hi); (try clear ho0); (try clear ho1); obtain ⟨Ao8, co8, eo8⟩ := Kd.R_slice HO216.out; subst eo8; obtain ⟨Ao9, co9, eo9⟩ := Kd.R_slice HO218.out; subst eo9) | ((with_reducible refine gate_callee (f := 48) rfl ?_); refine goesL_ (some 28) rfl rfl Tryd.func48 (by kernel_rfl) rfl #[.slice Ao8 t213.length co8, .slice Ao9 t214.length co9] rfl (by (try simp only [List.map_toArray, List.map_cons, List.map_nil]); first | done | rfl | (simp only [List.length_drop, List.length_take]; rfl)) ?_; (with_reducible refine (impl_MelodyJoin.calls k _ _ t213 _ _ t214 t219 t220 _ ?side1 ?side2 ?side3 ?side4 A4.out).mono ?_); (case side1 => exact cu (Kd.R_reads' HO216.out).2.2); (case side2 => exact (Kd.R_reads' HO216.out).2.1); (case side3 => exact cu (Kd.R_reads' HO218.out).2.2); (case side4 => exact (Kd.R_reads' HO218.out).2.1); rintro e w10 ⟨v221, rfl, ho0, hb⟩; refine ⟨_, rfl, ?_⟩; have n0_ := am (Kd.R_elder' (ru HO216.out) (Kd.R_base ho0) hb); have n1_ := am (Kd.R_elder' (ru HO218.out) (Kd.R_base ho0) hb); have n2_ := am (Kd.R_lower (Kd.R_new' (Kd.R_new' ho0 (Kd.R_lt (ru HO216.out))) (Kd.R_lt (ru HO218.out))) (below_size (bu HB.out))); have n3_ := am (below_step (bu HB.out) hb); clear HO216; clear HO218; clear HB; have HO216 := n0_; have HO218 := n1_; have HO222 := n2_; have HB := n3_; clear n0_ n1_ n2_ n3_; (try clear hb); (try clear hb2); (try clear hk); (try clear hi); (try clear ho0)) | ((with_reducible refine gate_callee (f := 49) rfl ?_); refine goesL_ (some 34) rfl rfl Tryd.func49 (by kernel_rfl) rfl #[.slice Ao8 t213.length co8, .slice Ao9 t214.length co9] rfl (by (try simp only [List.map_toArray, List.map_cons, List.map_nil]); first | done | rfl | (simp only [List.length_drop, List.length_take]; rfl)) ?_; (with_reducible refine (spec_MelodyJoin.calls k _ _ t213 _ _ t214 t223 t224 _ ?side1 ?side2 ?side3 ?side4 A5.out).mono ?_); (case side1 => exact cu (Kd.R_reads' HO216.out).2.2); (case side2 => exact (Kd.R_reads' HO216.out).2.1); (case side3 => exact cu (Kd.R_reads' HO218.out).2.2); (case side4 => exact (Kd.R_reads' HO218.out).2.1); rintro e w11 ⟨v225, rfl, ho0, hb⟩; refine ⟨_, rfl, ?_⟩; have n0_ := am (Kd.R_elder' (ru HO216.out) (Kd.R_base ho0) hb); have n1_ := am (Kd.R_elder' (ru HO218.out) (Kd.R_base ho0) hb); have n2_ := am (Kd.R_elder' (ru HO222.out) (Kd.R_base ho0) hb); have n3_ := am (Kd.R_lower (Kd.R_new' (Kd.R_new' (Kd.R_new' ho0 (Kd.R_lt (ru HO216.out))) (Kd.R_lt (ru HO218.out))) (Kd.R_lt (ru HO222.out))) (below_size (bu HB.out))); have n4_ := am (below_step (bu HB.out) hb); clear HO216; clear HO218; clear HO222; clear HB; have HO216 := n0_; have HO218 := n1_; have HO222 := n2_; have HO226 := n3_; have HB := n4_; clear n0_ n1_ n2_ n3_ n4_; (try clear hb); (try clear hb2); (try clear hk); (try clear hi); (try clear ho0)))
  (try simp only [Act.put, sA, sZ, sS])
  go_cut [49] (fun v49 wc => ∃ (kq : Nat) (x49_5 : Bool), v49 = .bool x49_5 ∧ Aside0 (laws_FnMelodyJoin.j0 kq t213 t214 t219 t220 t223 t224 x49_5 = some r) ∧ Aside0 (kq ≤ k) ∧ Aside0 (Kd.R k30 30 wc w.heap.size (fun k_ => some k_ ≠ ((.slice Ao9 t214.length co9) : Value).ownBlock ∧ some k_ ≠ (v221 : Value).ownBlock ∧ some k_ ≠ (v225 : Value).ownBlock) (.slice Ao8 t213.length co8) t213) ∧ Aside0 (Kd.R k30 30 wc w.heap.size (fun k_ => some k_ ≠ ((.slice Ao8 t213.length co8) : Value).ownBlock ∧ some k_ ≠ (v221 : Value).ownBlock ∧ some k_ ≠ (v225 : Value).ownBlock) (.slice Ao9 t214.length co9) t214) ∧ Aside0 (Kd.R k30 30 wc w.heap.size (fun k_ => some k_ ≠ ((.slice Ao8 t213.length co8) : Value).ownBlock ∧ some k_ ≠ ((.slice Ao9 t214.length co9) : Value).ownBlock ∧ some k_ ≠ (v225 : Value).ownBlock) v221 t219) ∧ Aside0 (Kd.R k30 30 wc w.heap.size (fun k_ => some k_ ≠ ((.slice Ao8 t213.length co8) : Value).ownBlock ∧ some k_ ≠ ((.slice Ao9 t214.length co9) : Value).ownBlock ∧ some k_ ≠ (v221 : Value).ownBlock) v225 t223) ∧ Aside0 (Below w.heap.size w wc))
  case first =>
   have H := HC6.out
   clear HC6
   by_cases c12 : (t220 != t224) = true
   ·rw [if_pos c12] at H
    have c12b0 : (t220 != t224) = true := c12
    (try (have c12b1 : decide (t220 = t224) = false := by simpa using c12))
    (try (have c12b2 : (t220 == t224) = false := by simpa using c12))
    (try (have c12b3 : ¬ (t220 = t224) := by simpa using c12))
    clear c12
    (first | rw [c12b0] | (simp only [i64_w, i32_w]; rw [c12b0]) | skip)
    have H' := am H
    clear H
    go_wp2
    go_meet
    case rel => exact ⟨_, (true), (by first | rfl | (simp; done) | (simp [*]; done)), H', ⟨by first | omega | exact Nat.le_refl _⟩, ⟨by (with_reducible repeat (first | apply Kd.R_alloc | apply Kd.R_drewN | apply Kd.R_drew)); exact Kd.R_mono HO216.out (fun _ hk => ⟨hk.1.1, ⟨hk.1.2, hk.2⟩⟩)⟩, ⟨by (with_reducible repeat (first | apply Kd.R_alloc | apply Kd.R_drewN | apply Kd.R_drew)); exact Kd.R_mono HO218.out (fun _ hk => ⟨hk.1.1, ⟨hk.1.2, hk.2⟩⟩)⟩, ⟨by (with_reducible repeat (first | apply Kd.R_alloc | apply Kd.R_drewN | apply Kd.R_drew)); exact Kd.R_mono HO222.out (fun _ hk => ⟨hk.1.1.2, ⟨hk.1.2, hk.2⟩⟩)⟩, ⟨by (with_reducible repeat (first | apply Kd.R_alloc | apply Kd.R_drewN | apply Kd.R_drew)); exact Kd.R_mono HO226.out (fun _ hk => ⟨hk.1.1.2, ⟨hk.1.2, hk.2⟩⟩)⟩, ⟨bu HB.out⟩⟩
   ·rw [if_neg c12] at H
    have c12b0 : (t220 != t224) = false := by simpa using c12
    (try (have c12b1 : decide (t220 = t224) = true := by simpa using c12))
    (try (have c12b2 : (t220 == t224) = true := by simpa using c12))
    clear c12
    (first | rw [c12b0] | (simp only [i64_w, i32_w]; rw [c12b0]) | skip)
    replace H := Option.bind_eq_some_iff.mp H
    obtain ⟨t227, A130, H⟩ := H
    replace H : (if t227 = true then (laws_FnMelodyJoin.j0 k t213 t214 t219 t220 t223 t224 (!t220)) else (laws_FnMelodyJoin.j0 k t213 t214 t219 t220 t223 t224 true)) = some r := H
    have A13 := am A130
    clear A130
    by_cases c14 : t227 = true
    ·subst c14
     have H1 : (laws_FnMelodyJoin.j0 k t213 t214 t219 t220 t223 t224 (!t220)) = some r := by rw [if_pos rfl] at H; exact H
     clear H
     have H := H1
     clear H1
     have H' := am H
     clear H
     obtain ⟨Ao15, co15, eo15⟩ := Kd.R_slice HO222.out
     subst eo15
     obtain ⟨Ao16, co16, eo16⟩ := Kd.R_slice HO226.out
     subst eo16
     go_wp2_with (first | (go_at_call 30; (with_reducible refine (laws_sameTones.calls k _ _ t219 _ _ t223 true _ ?side1 ?side2 ?side3 ?side4 A13.out).mono ?_); (case side1 => exact cu (Kd.R_reads' HO222.out).2.2); (case side2 => exact (Kd.R_reads' HO222.out).2.1); (case side3 => exact cu (Kd.R_reads' HO226.out).2.2); (case side4 => exact (Kd.R_reads' HO226.out).2.1); rintro e w' ⟨rfl, ⟨nd, rfl⟩⟩))
     go_meet
     case rel => exact ⟨_, (!t220), (by first | rfl | (simp; done) | (simp [*]; done)), H', ⟨by first | omega | exact Nat.le_refl _⟩, ⟨by (with_reducible repeat (first | apply Kd.R_alloc | apply Kd.R_drewN | apply Kd.R_drew)); exact Kd.R_mono HO216.out (fun _ hk => ⟨hk.1.1, ⟨hk.1.2, hk.2⟩⟩)⟩, ⟨by (with_reducible repeat (first | apply Kd.R_alloc | apply Kd.R_drewN | apply Kd.R_drew)); exact Kd.R_mono HO218.out (fun _ hk => ⟨hk.1.1, ⟨hk.1.2, hk.2⟩⟩)⟩, ⟨by (with_reducible repeat (first | apply Kd.R_alloc | apply Kd.R_drewN | apply Kd.R_drew)); exact Kd.R_mono HO222.out (fun _ hk => ⟨hk.1.1.2, ⟨hk.1.2, hk.2⟩⟩)⟩, ⟨by (with_reducible repeat (first | apply Kd.R_alloc | apply Kd.R_drewN | apply Kd.R_drew)); exact Kd.R_mono HO226.out (fun _ hk => ⟨hk.1.1.2, ⟨hk.1.2, hk.2⟩⟩)⟩, ⟨bu HB.out⟩⟩
    ·replace c14 := Bool.eq_false_iff.mpr c14
     subst c14
     have H1 : (laws_FnMelodyJoin.j0 k t213 t214 t219 t220 t223 t224 true) = some r := by rw [if_neg (show ¬ (false = true) by decide)] at H; exact H
     clear H
     have H := H1
     clear H1
     have H' := am H
     clear H
     obtain ⟨Ao17, co17, eo17⟩ := Kd.R_slice HO222.out
     subst eo17
     obtain ⟨Ao18, co18, eo18⟩ := Kd.R_slice HO226.out
     subst eo18
     go_wp2_with (first | (go_at_call 30; (with_reducible refine (laws_sameTones.calls k _ _ t219 _ _ t223 false _ ?side1 ?side2 ?side3 ?side4 A13.out).mono ?_); (case side1 => exact cu (Kd.R_reads' HO222.out).2.2); (case side2 => exact (Kd.R_reads' HO222.out).2.1); (case side3 => exact cu (Kd.R_reads' HO226.out).2.2); (case side4 => exact (Kd.R_reads' HO226.out).2.1); rintro e w' ⟨rfl, ⟨nd, rfl⟩⟩))
     go_meet
     case rel => exact ⟨_, (true), (by first | rfl | (simp; done) | (simp [*]; done)), H', ⟨by first | omega | exact Nat.le_refl _⟩, ⟨by (with_reducible repeat (first | apply Kd.R_alloc | apply Kd.R_drewN | apply Kd.R_drew)); exact Kd.R_mono HO216.out (fun _ hk => ⟨hk.1.1, ⟨hk.1.2, hk.2⟩⟩)⟩, ⟨by (with_reducible repeat (first | apply Kd.R_alloc | apply Kd.R_drewN | apply Kd.R_drew)); exact Kd.R_mono HO218.out (fun _ hk => ⟨hk.1.1, ⟨hk.1.2, hk.2⟩⟩)⟩, ⟨by (with_reducible repeat (first | apply Kd.R_alloc | apply Kd.R_drewN | apply Kd.R_drew)); exact Kd.R_mono HO222.out (fun _ hk => ⟨hk.1.1.2, ⟨hk.1.2, hk.2⟩⟩)⟩, ⟨by (with_reducible repeat (first | apply Kd.R_alloc | apply Kd.R_drewN | apply Kd.R_drew)); exact Kd.R_mono HO226.out (fun _ hk => ⟨hk.1.1.2, ⟨hk.1.2, hk.2⟩⟩)⟩, ⟨bu HB.out⟩⟩
  case rest =>
   clear HC6
   try clear c1
   try clear c2
   try clear c2b0
   try clear c2b1
   try clear p2
   try clear c4
   try clear c10
   try clear c12
   try clear c12b0
   try clear c12b1
   try clear c12b2
   try clear c14
   obtain ⟨kq, x49_5, rfl, HA, HJ5, HO_3, HO_4, HO_5, HO_7, HB⟩ := hcut
   cases kq with
   | zero => exact absurd HA.out (by simp [laws_FnMelodyJoin.j0])
   | succ kj5 =>
    have H := HA.out
    clear HA
    simp only [laws_FnMelodyJoin.j0] at H
    by_cases c19 : x49_5 = true
    ·subst c19
     have H1 : (if (t220 == t224) = true then ((laws_sameTones.f kj5 t219 t223).bind fun t228 => (some t228)) else (some false)) = some r := by rw [if_pos rfl] at H; exact H
     clear H
     have H := H1
     clear H1
     by_cases c20 : (t220 == t224) = true
     ·rw [if_pos c20] at H
      have c20b0 : (t220 == t224) = true := c20
      (try (have c20b1 : decide (t220 = t224) = true := by simpa using c20))
      (try (have c20b2 : (t220 == t224) = true := by simpa using c20))
      clear c20
      replace H := Option.bind_eq_some_iff.mp H
      obtain ⟨t228, A210, H⟩ := H
      replace H : (some t228) = some r := H
      have A21 := am A210
      clear A210
      obtain rfl := Option.some.inj H
      obtain ⟨Ao22, co22, eo22⟩ := Kd.R_slice HO_5.out
      subst eo22
      obtain ⟨Ao23, co23, eo23⟩ := Kd.R_slice HO_7.out
      subst eo23
      go_wp2_with (first | (go_at_call 30; (with_reducible refine (laws_sameTones.calls kj5 _ _ t219 _ _ t223 t228 _ ?side1 ?side2 ?side3 ?side4 A21.out).mono ?_); (case side1 => exact cu (Kd.R_reads' HO_5.out).2.2); (case side2 => exact (Kd.R_reads' HO_5.out).2.1); (case side3 => exact cu (Kd.R_reads' HO_7.out).2.2); (case side4 => exact (Kd.R_reads' HO_7.out).2.1); rintro e w' ⟨rfl, ⟨nd, rfl⟩⟩))
      go_ret
      exact ⟨by first | rfl | (simp [errW_none, errW_some] <;> rfl) | (simp [*, errW_none, errW_some] <;> rfl), bu HB.out⟩
     ·rw [if_neg c20] at H
      have c20b0 : (t220 == t224) = false := by simpa using c20
      (try (have c20b1 : decide (t220 = t224) = false := by simpa using c20))
      (try (have c20b2 : (t220 == t224) = false := by simpa using c20))
      (try (have c20b3 : ¬ (t220 = t224) := by simpa using c20))
      clear c20
      obtain rfl := Option.some.inj H
      go_wp2
      go_ret
      exact ⟨by first | rfl | (simp [errW_none, errW_some] <;> rfl) | (simp [*, errW_none, errW_some] <;> rfl), bu HB.out⟩
    ·replace c19 := Bool.eq_false_iff.mpr c19
     subst c19
     have H1 : ((impl_SingBest.f kj5 t213).bind fun bt229 => ((impl_SingBest.f kj5 t214).bind fun bt233 => ((impl_SingBest.f kj5 t219).bind fun bt237 => ((impl_SingMany.f kj5 t219).bind fun t241 => ((impl_SingMany.f kj5 t213).bind fun t242 => ((impl_SingMany.f kj5 t214).bind fun t243 => (if t241 = (wrap64 (t242 * t243)) then (if bt229.2 = true then (laws_FnMelodyJoin.j1 kj5 t213 t214 t219 bt229.1 bt233.1 bt237.1 bt237.2 (bt237.2 != bt233.2)) else (laws_FnMelodyJoin.j1 kj5 t213 t214 t219 bt229.1 bt233.1 bt237.1 bt237.2 (bt237.2 != false))) else (laws_FnMelodyJoin.j1 kj5 t213 t214 t219 bt229.1 bt233.1 bt237.1 bt237.2 true)))))))) = some r := by rw [if_neg (show ¬ (false = true) by decide)] at H; exact H
     clear H
     have H := H1
     clear H1
     replace H := Option.bind_eq_some_iff.mp H
     obtain ⟨⟨t229, t230⟩, A240, H⟩ := H
     replace H : ((impl_SingBest.f kj5 t214).bind fun bt233 => ((impl_SingBest.f kj5 t219).bind fun bt237 => ((impl_SingMany.f kj5 t219).bind fun t241 => ((impl_SingMany.f kj5 t213).bind fun t242 => ((impl_SingMany.f kj5 t214).bind fun t243 => (if t241 = (wrap64 (t242 * t243)) then (if t230 = true then (laws_FnMelodyJoin.j1 kj5 t213 t214 t219 t229 bt233.1 bt237.1 bt237.2 (bt237.2 != bt233.2)) else (laws_FnMelodyJoin.j1 kj5 t213 t214 t219 t229 bt233.1 bt237.1 bt237.2 (bt237.2 != false))) else (laws_FnMelodyJoin.j1 kj5 t213 t214 t219 t229 bt233.1 bt237.1 bt237.2 true))))))) = some r := H
     have A24 := am A240
     clear A240
     replace H := Option.bind_eq_some_iff.mp H
     obtain ⟨⟨t233, t234⟩, A250, H⟩ := H
     replace H : ((impl_SingBest.f kj5 t219).bind fun bt237 => ((impl_SingMany.f kj5 t219).bind fun t241 => ((impl_SingMany.f kj5 t213).bind fun t242 => ((impl_SingMany.f kj5 t214).bind fun t243 => (if t241 = (wrap64 (t242 * t243)) then (if t230 = true then (laws_FnMelodyJoin.j1 kj5 t213 t214 t219 t229 t233 bt237.1 bt237.2 (bt237.2 != t234)) else (laws_FnMelodyJoin.j1 kj5 t213 t214 t219 t229 t233 bt237.1 bt237.2 (bt237.2 != false))) else (laws_FnMelodyJoin.j1 kj5 t213 t214 t219 t229 t233 bt237.1 bt237.2 true)))))) = some r := H
     have A25 := am A250
     clear A250
     replace H := Option.bind_eq_some_iff.mp H
     obtain ⟨⟨t237, t238⟩, A260, H⟩ := H
     replace H : ((impl_SingMany.f kj5 t219).bind fun t241 => ((impl_SingMany.f kj5 t213).bind fun t242 => ((impl_SingMany.f kj5 t214).bind fun t243 => (if t241 = (wrap64 (t242 * t243)) then (if t230 = true then (laws_FnMelodyJoin.j1 kj5 t213 t214 t219 t229 t233 t237 t238 (t238 != t234)) else (laws_FnMelodyJoin.j1 kj5 t213 t214 t219 t229 t233 t237 t238 (t238 != false))) else (laws_FnMelodyJoin.j1 kj5 t213 t214 t219 t229 t233 t237 t238 true))))) = some r := H
     have A26 := am A260
     clear A260
     have HC27 := am H
     clear H
     go_upto_region 11 with (first | ((with_reducible refine gate_callee (f := 37) rfl ?_); refine goesL_ (some 60) rfl rfl Tryd.func37 (by kernel_rfl) rfl #[.slice Ao8 t213.length co8] rfl (by (try simp only [List.map_toArray, List.map_cons, List.map_nil]); first | done | rfl | (simp only [List.length_drop, List.length_take]; rfl)) ?_; (with_reducible refine (impl_SingBest.calls kj5 _ _ t213 t229 t230 _ ?side1 ?side2 ?side3 A24.out).mono ?_); (case side1 => exact cu (Kd.R_reads' HO_3.out).2.2); (case side2 => exact (Kd.R_reads' HO_3.out).2.1); (case side3 => first | exact HTL.out | exact TabAt.below HTL.out (bu HB.out)); rintro e w28 ⟨v231, rfl, ho0, hb⟩; refine ⟨_, rfl, ?_⟩; have n0_ := am (Kd.R_below (ru HO_3.out) hb); have n1_ := am (Kd.R_below (ru HO_4.out) hb); have n2_ := am (Kd.R_below (ru HO_5.out) hb); have n3_ := am (Kd.R_below (ru HO_7.out) hb); have n4_ := am (Kd.R_lower ho0 (below_size (bu HB.out))); have n5_ := am (below_step (bu HB.out) hb); clear HO_3; clear HO_4; clear HO_5; clear HO_7; clear HB; have HO_3 := n0_; have HO_4 := n1_; have HO_5 := n2_; have HO_7 := n3_; have HO232 := n4_; have HB := n5_; clear n0_ n1_ n2_ n3_ n4_ n5_; (try clear hb); (try clear hb2); (try clear hk); (try clear hi); (try clear ho0)) | ((with_reducible refine gate_callee (f := 37) rfl ?_); refine goesL_ (some 65) rfl rfl Tryd.func37 (by kernel_rfl) rfl #[.slice Ao9 t214.length co9] rfl (by (try simp only [List.map_toArray, List.map_cons, List.map_nil]); first | done | rfl | (simp only [List.length_drop, List.length_take]; rfl)) ?_; (with_reducible refine (impl_SingBest.calls kj5 _ _ t214 t233 t234 _ ?side1 ?side2 ?side3 A25.out).mono ?_); (case side1 => exact cu (Kd.R_reads' HO_4.out).2.2); (case side2 => exact (Kd.R_reads' HO_4.out).2.1); (case side3 => first | exact HTL.out | exact TabAt.below HTL.out (bu HB.out)); rintro e w29 ⟨v235, rfl, ho0, hb⟩; refine ⟨_, rfl, ?_⟩; have n0_ := am (Kd.R_below (ru HO_3.out) hb); have n1_ := am (Kd.R_below (ru HO_4.out) hb); have n2_ := am (Kd.R_below (ru HO_5.out) hb); have n3_ := am (Kd.R_below (ru HO_7.out) hb); have n4_ := am (Kd.R_elder' (ru HO232.out) (Kd.R_base ho0) hb); have n5_ := am (Kd.R_lower (Kd.R_new' ho0 (Kd.R_lt (ru HO232.out))) (below_size (bu HB.out))); have n6_ := am (below_step (bu HB.out) hb); clear HO_3; clear HO_4; clear HO_5; clear HO_7; clear HO232; clear HB; have HO_3 := n0_; have HO_4 := n1_; have HO_5 := n2_; have HO_7 := n3_; have HO232 := n4_; have HO236 := n5_; have HB := n6_; clear n0_ n1_ n2_ n3_ n4_ n5_ n6_; (try clear hb); (try clear hb2); (try clear hk); (try clear hi); (try clear ho0); obtain ⟨Ao30, co30, eo30⟩ := Kd.R_slice HO_5.out; subst eo30) | ((with_reducible refine gate_callee (f := 37) rfl ?_); refine goesL_ (some 70) rfl rfl Tryd.func37 (by kernel_rfl) rfl #[.slice Ao30 t219.length co30] rfl (by (try simp only [List.map_toArray, List.map_cons, List.map_nil]); first | done | rfl | (simp only [List.length_drop, List.length_take]; rfl)) ?_; (with_reducible refine (impl_SingBest.calls kj5 _ _ t219 t237 t238 _ ?side1 ?side2 ?side3 A26.out).mono ?_); (case side1 => exact cu (Kd.R_reads' HO_5.out).2.2); (case side2 => exact (Kd.R_reads' HO_5.out).2.1); (case side3 => first | exact HTL.out | exact TabAt.below HTL.out (bu HB.out)); rintro e w31 ⟨v239, rfl, ho0, hb⟩; refine ⟨_, rfl, ?_⟩; have n0_ := am (Kd.R_below (ru HO_3.out) hb); have n1_ := am (Kd.R_below (ru HO_4.out) hb); have n2_ := am (Kd.R_below (ru HO_5.out) hb); have n3_ := am (Kd.R_below (ru HO_7.out) hb); have n4_ := am (Kd.R_elder' (ru HO232.out) (Kd.R_base ho0) hb); have n5_ := am (Kd.R_elder' (ru HO236.out) (Kd.R_base ho0) hb); have n6_ := am (Kd.R_lower (Kd.R_new' (Kd.R_new' ho0 (Kd.R_lt (ru HO232.out))) (Kd.R_lt (ru HO236.out))) (below_size (bu HB.out))); have n7_ := am (below_step (bu HB.out) hb); clear HO_3; clear HO_4; clear HO_5; clear HO_7; clear HO232; clear HO236; clear HB; have HO_3 := n0_; have HO_4 := n1_; have HO_5 := n2_; have HO_7 := n3_; have HO232 := n4_; have HO236 := n5_; have HO240 := n6_; have HB := n7_; clear n0_ n1_ n2_ n3_ n4_ n5_ n6_ n7_; (try clear hb); (try clear hb2); (try clear hk); (try clear hi); (try clear ho0)))
     (try simp only [Act.put, sA, sZ, sS])
     go_cut [88] (fun v88 wc => ∃ (kq : Nat) (x88_26 : Bool), v88 = .bool x88_26 ∧ Aside0 (laws_FnMelodyJoin.j1 kq t213 t214 t219 t229 t233 t237 t238 x88_26 = some r) ∧ Aside0 (kq ≤ kj5) ∧ Aside0 (Kd.R k30 30 wc w.heap.size (fun k_ => some k_ ≠ ((.slice Ao9 t214.length co9) : Value).ownBlock ∧ some k_ ≠ ((.slice Ao30 t219.length co30) : Value).ownBlock) (.slice Ao8 t213.length co8) t213) ∧ Aside0 (Kd.R k30 30 wc w.heap.size (fun k_ => some k_ ≠ ((.slice Ao8 t213.length co8) : Value).ownBlock ∧ some k_ ≠ ((.slice Ao30 t219.length co30) : Value).ownBlock) (.slice Ao9 t214.length co9) t214) ∧ Aside0 (Kd.R k30 30 wc w.heap.size (fun k_ => some k_ ≠ ((.slice Ao8 t213.length co8) : Value).ownBlock ∧ some k_ ≠ ((.slice Ao9 t214.length co9) : Value).ownBlock) (.slice Ao30 t219.length co30) t219) ∧ Aside0 (Kd.R (Kd.int .i64) 3 wc w.heap.size (fun k_ => some k_ ≠ (v235 : Value).ownBlock ∧ some k_ ≠ (v239 : Value).ownBlock) v231 t229) ∧ Aside0 (Kd.R (Kd.int .i64) 3 wc w.heap.size (fun k_ => some k_ ≠ (v231 : Value).ownBlock ∧ some k_ ≠ (v239 : Value).ownBlock) v235 t233) ∧ Aside0 (Kd.R (Kd.int .i64) 3 wc w.heap.size (fun k_ => some k_ ≠ (v231 : Value).ownBlock ∧ some k_ ≠ (v235 : Value).ownBlock) v239 t237) ∧ Aside0 (Below w.heap.size w wc))
     case first =>
      have H := HC27.out
      clear HC27
      replace H := Option.bind_eq_some_iff.mp H
      obtain ⟨t241, A320, H⟩ := H
      replace H : ((impl_SingMany.f kj5 t213).bind fun t242 => ((impl_SingMany.f kj5 t214).bind fun t243 => (if t241 = (wrap64 (t242 * t243)) then (if t230 = true then (laws_FnMelodyJoin.j1 kj5 t213 t214 t219 t229 t233 t237 t238 (t238 != t234)) else (laws_FnMelodyJoin.j1 kj5 t213 t214 t219 t229 t233 t237 t238 (t238 != false))) else (laws_FnMelodyJoin.j1 kj5 t213 t214 t219 t229 t233 t237 t238 true)))) = some r := H
      have A32 := am A320
      clear A320
      replace H := Option.bind_eq_some_iff.mp H
      obtain ⟨t242, A330, H⟩ := H
      replace H : ((impl_SingMany.f kj5 t214).bind fun t243 => (if t241 = (wrap64 (t242 * t243)) then (if t230 = true then (laws_FnMelodyJoin.j1 kj5 t213 t214 t219 t229 t233 t237 t238 (t238 != t234)) else (laws_FnMelodyJoin.j1 kj5 t213 t214 t219 t229 t233 t237 t238 (t238 != false))) else (laws_FnMelodyJoin.j1 kj5 t213 t214 t219 t229 t233 t237 t238 true))) = some r := H
      have A33 := am A330
      clear A330
      replace H := Option.bind_eq_some_iff.mp H
      obtain ⟨t243, A340, H⟩ := H
      replace H : (if t241 = (wrap64 (t242 * t243)) then (if t230 = true then (laws_FnMelodyJoin.j1 kj5 t213 t214 t219 t229 t233 t237 t238 (t238 != t234)) else (laws_FnMelodyJoin.j1 kj5 t213 t214 t219 t229 t233 t237 t238 (t238 != false))) else (laws_FnMelodyJoin.j1 kj5 t213 t214 t219 t229 t233 t237 t238 true)) = some r := H
      have A34 := am A340
      clear A340
      by_cases c35 : t241 = (wrap64 (t242 * t243))
      ·rw [if_pos c35] at H
       have c35b0 : (t241 == (wrap64 (t242 * t243))) = true := beq_iff_eq.mpr c35
       have c35b1 : (t241 != (wrap64 (t242 * t243))) = false := bne_eq_false_iff_eq.mpr c35
       clear c35
       (first | rw [c35b0] | (simp only [i64_w, i32_w]; rw [c35b0]) | skip)
       by_cases c36 : t230 = true
       ·subst c36
        have H1 : (laws_FnMelodyJoin.j1 kj5 t213 t214 t219 t229 t233 t237 t238 (t238 != t234)) = some r := by rw [if_pos rfl] at H; exact H
        clear H
        have H := H1
        clear H1
        have H' := am H
        clear H
        go_wp2_with (first | ((with_reducible refine gate_callee (f := 50) rfl ?_); refine goesL_ (some 74) rfl rfl Tryd.func50 (by kernel_rfl) rfl #[.slice Ao30 t219.length co30] rfl (by (try simp only [List.map_toArray, List.map_cons, List.map_nil]); first | done | rfl | (simp only [List.length_drop, List.length_take]; rfl)) ?_; (with_reducible refine (impl_SingMany.calls kj5 _ _ t219 t241 _ ?side1 ?side2 ?side3 A32.out).mono ?_); (case side1 => exact cu (Kd.R_reads' HO_5.out).2.2); (case side2 => exact (Kd.R_reads' HO_5.out).2.1); (case side3 => first | exact HTL.out | exact TabAt.below HTL.out (bu HB.out)); rintro e w37 ⟨rfl, hb⟩; refine ⟨_, rfl, ?_⟩; have n0_ := am (Kd.R_below (ru HO_3.out) hb); have n1_ := am (Kd.R_below (ru HO_4.out) hb); have n2_ := am (Kd.R_below (ru HO_5.out) hb); have n3_ := am (Kd.R_below (ru HO_7.out) hb); have n4_ := am (Kd.R_below (ru HO232.out) hb); have n5_ := am (Kd.R_below (ru HO236.out) hb); have n6_ := am (Kd.R_below (ru HO240.out) hb); have n7_ := am (below_step (bu HB.out) hb); clear HO_3; clear HO_4; clear HO_5; clear HO_7; clear HO232; clear HO236; clear HO240; clear HB; have HO_3 := n0_; have HO_4 := n1_; have HO_5 := n2_; have HO_7 := n3_; have HO232 := n4_; have HO236 := n5_; have HO240 := n6_; have HB := n7_; clear n0_ n1_ n2_ n3_ n4_ n5_ n6_ n7_; (try clear hb); (try clear hb2); (try clear hk); (try clear hi)) | ((with_reducible refine gate_callee (f := 50) rfl ?_); refine goesL_ (some 76) rfl rfl Tryd.func50 (by kernel_rfl) rfl #[.slice Ao8 t213.length co8] rfl (by (try simp only [List.map_toArray, List.map_cons, List.map_nil]); first | done | rfl | (simp only [List.length_drop, List.length_take]; rfl)) ?_; (with_reducible refine (impl_SingMany.calls kj5 _ _ t213 t242 _ ?side1 ?side2 ?side3 A33.out).mono ?_); (case side1 => exact cu (Kd.R_reads' HO_3.out).2.2); (case side2 => exact (Kd.R_reads' HO_3.out).2.1); (case side3 => first | exact HTL.out | exact TabAt.below HTL.out (bu HB.out)); rintro e w38 ⟨rfl, hb⟩; refine ⟨_, rfl, ?_⟩; have n0_ := am (Kd.R_below (ru HO_3.out) hb); have n1_ := am (Kd.R_below (ru HO_4.out) hb); have n2_ := am (Kd.R_below (ru HO_5.out) hb); have n3_ := am (Kd.R_below (ru HO_7.out) hb); have n4_ := am (Kd.R_below (ru HO232.out) hb); have n5_ := am (Kd.R_below (ru HO236.out) hb); have n6_ := am (Kd.R_below (ru HO240.out) hb); have n7_ := am (below_step (bu HB.out) hb); clear HO_3; clear HO_4; clear HO_5; clear HO_7; clear HO232; clear HO236; clear HO240; clear HB; have HO_3 := n0_; have HO_4 := n1_; have HO_5 := n2_; have HO_7 := n3_; have HO232 := n4_; have HO236 := n5_; have HO240 := n6_; have HB := n7_; clear n0_ n1_ n2_ n3_ n4_ n5_ n6_ n7_; (try clear hb); (try clear hb2); (try clear hk); (try clear hi)) | ((with_reducible refine gate_callee (f := 50) rfl ?_); refine goesL_ (some 78) rfl rfl Tryd.func50 (by kernel_rfl) rfl #[.slice Ao9 t214.length co9] rfl (by (try simp only [List.map_toArray, List.map_cons, List.map_nil]); first | done | rfl | (simp only [List.length_drop, List.length_take]; rfl)) ?_; (with_reducible refine (impl_SingMany.calls kj5 _ _ t214 t243 _ ?side1 ?side2 ?side3 A34.out).mono ?_); (case side1 => exact cu (Kd.R_reads' HO_4.out).2.2); (case side2 => exact (Kd.R_reads' HO_4.out).2.1); (case side3 => first | exact HTL.out | exact TabAt.below HTL.out (bu HB.out)); rintro e w39 ⟨rfl, hb⟩; refine ⟨_, rfl, ?_⟩; have n0_ := am (Kd.R_below (ru HO_3.out) hb); have n1_ := am (Kd.R_below (ru HO_4.out) hb); have n2_ := am (Kd.R_below (ru HO_5.out) hb); have n3_ := am (Kd.R_below (ru HO_7.out) hb); have n4_ := am (Kd.R_below (ru HO232.out) hb); have n5_ := am (Kd.R_below (ru HO236.out) hb); have n6_ := am (Kd.R_below (ru HO240.out) hb); have n7_ := am (below_step (bu HB.out) hb); clear HO_3; clear HO_4; clear HO_5; clear HO_7; clear HO232; clear HO236; clear HO240; clear HB; have HO_3 := n0_; have HO_4 := n1_; have HO_5 := n2_; have HO_7 := n3_; have HO232 := n4_; have HO236 := n5_; have HO240 := n6_; have HB := n7_; clear n0_ n1_ n2_ n3_ n4_ n5_ n6_ n7_; (try clear hb); (try clear hb2); (try clear hk); (try clear hi)))
        go_meet
        case rel => exact ⟨_, ((t238 != t234)), (by first | rfl | (simp; done) | (simp [*]; done)), H', ⟨by have := HJ5.out; first | omega | exact Nat.le_refl _⟩, ⟨by (with_reducible repeat (first | apply Kd.R_alloc | apply Kd.R_drewN | apply Kd.R_drew)); exact Kd.R_mono HO_3.out (fun _ hk => ⟨hk.1, hk.2.1⟩)⟩, ⟨by (with_reducible repeat (first | apply Kd.R_alloc | apply Kd.R_drewN | apply Kd.R_drew)); exact Kd.R_mono HO_4.out (fun _ hk => ⟨hk.1, hk.2.1⟩)⟩, ⟨by (with_reducible repeat (first | apply Kd.R_alloc | apply Kd.R_drewN | apply Kd.R_drew)); exact Kd.R_mono HO_5.out (fun _ hk => ⟨hk.1, hk.2.1⟩)⟩, ⟨by (with_reducible repeat (first | apply Kd.R_alloc | apply Kd.R_drewN | apply Kd.R_drew)); exact Kd.R_mono HO232.out (fun _ hk => ⟨hk.1.2, hk.2⟩)⟩, ⟨by (with_reducible repeat (first | apply Kd.R_alloc | apply Kd.R_drewN | apply Kd.R_drew)); exact Kd.R_mono HO236.out (fun _ hk => ⟨hk.1.2, hk.2⟩)⟩, ⟨by (with_reducible repeat (first | apply Kd.R_alloc | apply Kd.R_drewN | apply Kd.R_drew)); exact Kd.R_mono HO240.out (fun _ hk => ⟨hk.1.2, hk.2⟩)⟩, ⟨bu HB.out⟩⟩
       ·replace c36 := Bool.eq_false_iff.mpr c36
        subst c36
        have H1 : (laws_FnMelodyJoin.j1 kj5 t213 t214 t219 t229 t233 t237 t238 (t238 != false)) = some r := by rw [if_neg (show ¬ (false = true) by decide)] at H; exact H
        clear H
        have H := H1
        clear H1
        have H' := am H
        clear H
        go_wp2_with (first | ((with_reducible refine gate_callee (f := 50) rfl ?_); refine goesL_ (some 74) rfl rfl Tryd.func50 (by kernel_rfl) rfl #[.slice Ao30 t219.length co30] rfl (by (try simp only [List.map_toArray, List.map_cons, List.map_nil]); first | done | rfl | (simp only [List.length_drop, List.length_take]; rfl)) ?_; (with_reducible refine (impl_SingMany.calls kj5 _ _ t219 t241 _ ?side1 ?side2 ?side3 A32.out).mono ?_); (case side1 => exact cu (Kd.R_reads' HO_5.out).2.2); (case side2 => exact (Kd.R_reads' HO_5.out).2.1); (case side3 => first | exact HTL.out | exact TabAt.below HTL.out (bu HB.out)); rintro e w40 ⟨rfl, hb⟩; refine ⟨_, rfl, ?_⟩; have n0_ := am (Kd.R_below (ru HO_3.out) hb); have n1_ := am (Kd.R_below (ru HO_4.out) hb); have n2_ := am (Kd.R_below (ru HO_5.out) hb); have n3_ := am (Kd.R_below (ru HO_7.out) hb); have n4_ := am (Kd.R_below (ru HO232.out) hb); have n5_ := am (Kd.R_below (ru HO236.out) hb); have n6_ := am (Kd.R_below (ru HO240.out) hb); have n7_ := am (below_step (bu HB.out) hb); clear HO_3; clear HO_4; clear HO_5; clear HO_7; clear HO232; clear HO236; clear HO240; clear HB; have HO_3 := n0_; have HO_4 := n1_; have HO_5 := n2_; have HO_7 := n3_; have HO232 := n4_; have HO236 := n5_; have HO240 := n6_; have HB := n7_; clear n0_ n1_ n2_ n3_ n4_ n5_ n6_ n7_; (try clear hb); (try clear hb2); (try clear hk); (try clear hi)) | ((with_reducible refine gate_callee (f := 50) rfl ?_); refine goesL_ (some 76) rfl rfl Tryd.func50 (by kernel_rfl) rfl #[.slice Ao8 t213.length co8] rfl (by (try simp only [List.map_toArray, List.map_cons, List.map_nil]); first | done | rfl | (simp only [List.length_drop, List.length_take]; rfl)) ?_; (with_reducible refine (impl_SingMany.calls kj5 _ _ t213 t242 _ ?side1 ?side2 ?side3 A33.out).mono ?_); (case side1 => exact cu (Kd.R_reads' HO_3.out).2.2); (case side2 => exact (Kd.R_reads' HO_3.out).2.1); (case side3 => first | exact HTL.out | exact TabAt.below HTL.out (bu HB.out)); rintro e w41 ⟨rfl, hb⟩; refine ⟨_, rfl, ?_⟩; have n0_ := am (Kd.R_below (ru HO_3.out) hb); have n1_ := am (Kd.R_below (ru HO_4.out) hb); have n2_ := am (Kd.R_below (ru HO_5.out) hb); have n3_ := am (Kd.R_below (ru HO_7.out) hb); have n4_ := am (Kd.R_below (ru HO232.out) hb); have n5_ := am (Kd.R_below (ru HO236.out) hb); have n6_ := am (Kd.R_below (ru HO240.out) hb); have n7_ := am (below_step (bu HB.out) hb); clear HO_3; clear HO_4; clear HO_5; clear HO_7; clear HO232; clear HO236; clear HO240; clear HB; have HO_3 := n0_; have HO_4 := n1_; have HO_5 := n2_; have HO_7 := n3_; have HO232 := n4_; have HO236 := n5_; have HO240 := n6_; have HB := n7_; clear n0_ n1_ n2_ n3_ n4_ n5_ n6_ n7_; (try clear hb); (try clear hb2); (try clear hk); (try clear hi)) | ((with_reducible refine gate_callee (f := 50) rfl ?_); refine goesL_ (some 78) rfl rfl Tryd.func50 (by kernel_rfl) rfl #[.slice Ao9 t214.length co9] rfl (by (try simp only [List.map_toArray, List.map_cons, List.map_nil]); first | done | rfl | (simp only [List.length_drop, List.length_take]; rfl)) ?_; (with_reducible refine (impl_SingMany.calls kj5 _ _ t214 t243 _ ?side1 ?side2 ?side3 A34.out).mono ?_); (case side1 => exact cu (Kd.R_reads' HO_4.out).2.2); (case side2 => exact (Kd.R_reads' HO_4.out).2.1); (case side3 => first | exact HTL.out | exact TabAt.below HTL.out (bu HB.out)); rintro e w42 ⟨rfl, hb⟩; refine ⟨_, rfl, ?_⟩; have n0_ := am (Kd.R_below (ru HO_3.out) hb); have n1_ := am (Kd.R_below (ru HO_4.out) hb); have n2_ := am (Kd.R_below (ru HO_5.out) hb); have n3_ := am (Kd.R_below (ru HO_7.out) hb); have n4_ := am (Kd.R_below (ru HO232.out) hb); have n5_ := am (Kd.R_below (ru HO236.out) hb); have n6_ := am (Kd.R_below (ru HO240.out) hb); have n7_ := am (below_step (bu HB.out) hb); clear HO_3; clear HO_4; clear HO_5; clear HO_7; clear HO232; clear HO236; clear HO240; clear HB; have HO_3 := n0_; have HO_4 := n1_; have HO_5 := n2_; have HO_7 := n3_; have HO232 := n4_; have HO236 := n5_; have HO240 := n6_; have HB := n7_; clear n0_ n1_ n2_ n3_ n4_ n5_ n6_ n7_; (try clear hb); (try clear hb2); (try clear hk); (try clear hi)))
        go_meet
        case rel => exact ⟨_, ((t238 != false)), (by first | rfl | (simp; done) | (simp [*]; done)), H', ⟨by have := HJ5.out; first | omega | exact Nat.le_refl _⟩, ⟨by (with_reducible repeat (first | apply Kd.R_alloc | apply Kd.R_drewN | apply Kd.R_drew)); exact Kd.R_mono HO_3.out (fun _ hk => ⟨hk.1, hk.2.1⟩)⟩, ⟨by (with_reducible repeat (first | apply Kd.R_alloc | apply Kd.R_drewN | apply Kd.R_drew)); exact Kd.R_mono HO_4.out (fun _ hk => ⟨hk.1, hk.2.1⟩)⟩, ⟨by (with_reducible repeat (first | apply Kd.R_alloc | apply Kd.R_drewN | apply Kd.R_drew)); exact Kd.R_mono HO_5.out (fun _ hk => ⟨hk.1, hk.2.1⟩)⟩, ⟨by (with_reducible repeat (first | apply Kd.R_alloc | apply Kd.R_drewN | apply Kd.R_drew)); exact Kd.R_mono HO232.out (fun _ hk => ⟨hk.1.2, hk.2⟩)⟩, ⟨by (with_reducible repeat (first | apply Kd.R_alloc | apply Kd.R_drewN | apply Kd.R_drew)); exact Kd.R_mono HO236.out (fun _ hk => ⟨hk.1.2, hk.2⟩)⟩, ⟨by (with_reducible repeat (first | apply Kd.R_alloc | apply Kd.R_drewN | apply Kd.R_drew)); exact Kd.R_mono HO240.out (fun _ hk => ⟨hk.1.2, hk.2⟩)⟩, ⟨bu HB.out⟩⟩
      ·rw [if_neg c35] at H
       have c35b0 : (t241 == (wrap64 (t242 * t243))) = false := beq_eq_false_iff_ne.mpr c35
       have c35b1 : (t241 != (wrap64 (t242 * t243))) = true := bne_iff_ne.mpr c35
       (first | rw [c35b0] | (simp only [i64_w, i32_w]; rw [c35b0]) | skip)
       have H' := am H
       clear H
       go_wp2_with (first | ((with_reducible refine gate_callee (f := 50) rfl ?_); refine goesL_ (some 74) rfl rfl Tryd.func50 (by kernel_rfl) rfl #[.slice Ao30 t219.length co30] rfl (by (try simp only [List.map_toArray, List.map_cons, List.map_nil]); first | done | rfl | (simp only [List.length_drop, List.length_take]; rfl)) ?_; (with_reducible refine (impl_SingMany.calls kj5 _ _ t219 t241 _ ?side1 ?side2 ?side3 A32.out).mono ?_); (case side1 => exact cu (Kd.R_reads' HO_5.out).2.2); (case side2 => exact (Kd.R_reads' HO_5.out).2.1); (case side3 => first | exact HTL.out | exact TabAt.below HTL.out (bu HB.out)); rintro e w43 ⟨rfl, hb⟩; refine ⟨_, rfl, ?_⟩; have n0_ := am (Kd.R_below (ru HO_3.out) hb); have n1_ := am (Kd.R_below (ru HO_4.out) hb); have n2_ := am (Kd.R_below (ru HO_5.out) hb); have n3_ := am (Kd.R_below (ru HO_7.out) hb); have n4_ := am (Kd.R_below (ru HO232.out) hb); have n5_ := am (Kd.R_below (ru HO236.out) hb); have n6_ := am (Kd.R_below (ru HO240.out) hb); have n7_ := am (below_step (bu HB.out) hb); clear HO_3; clear HO_4; clear HO_5; clear HO_7; clear HO232; clear HO236; clear HO240; clear HB; have HO_3 := n0_; have HO_4 := n1_; have HO_5 := n2_; have HO_7 := n3_; have HO232 := n4_; have HO236 := n5_; have HO240 := n6_; have HB := n7_; clear n0_ n1_ n2_ n3_ n4_ n5_ n6_ n7_; (try clear hb); (try clear hb2); (try clear hk); (try clear hi)) | ((with_reducible refine gate_callee (f := 50) rfl ?_); refine goesL_ (some 76) rfl rfl Tryd.func50 (by kernel_rfl) rfl #[.slice Ao8 t213.length co8] rfl (by (try simp only [List.map_toArray, List.map_cons, List.map_nil]); first | done | rfl | (simp only [List.length_drop, List.length_take]; rfl)) ?_; (with_reducible refine (impl_SingMany.calls kj5 _ _ t213 t242 _ ?side1 ?side2 ?side3 A33.out).mono ?_); (case side1 => exact cu (Kd.R_reads' HO_3.out).2.2); (case side2 => exact (Kd.R_reads' HO_3.out).2.1); (case side3 => first | exact HTL.out | exact TabAt.below HTL.out (bu HB.out)); rintro e w44 ⟨rfl, hb⟩; refine ⟨_, rfl, ?_⟩; have n0_ := am (Kd.R_below (ru HO_3.out) hb); have n1_ := am (Kd.R_below (ru HO_4.out) hb); have n2_ := am (Kd.R_below (ru HO_5.out) hb); have n3_ := am (Kd.R_below (ru HO_7.out) hb); have n4_ := am (Kd.R_below (ru HO232.out) hb); have n5_ := am (Kd.R_below (ru HO236.out) hb); have n6_ := am (Kd.R_below (ru HO240.out) hb); have n7_ := am (below_step (bu HB.out) hb); clear HO_3; clear HO_4; clear HO_5; clear HO_7; clear HO232; clear HO236; clear HO240; clear HB; have HO_3 := n0_; have HO_4 := n1_; have HO_5 := n2_; have HO_7 := n3_; have HO232 := n4_; have HO236 := n5_; have HO240 := n6_; have HB := n7_; clear n0_ n1_ n2_ n3_ n4_ n5_ n6_ n7_; (try clear hb); (try clear hb2); (try clear hk); (try clear hi)) | ((with_reducible refine gate_callee (f := 50) rfl ?_); refine goesL_ (some 78) rfl rfl Tryd.func50 (by kernel_rfl) rfl #[.slice Ao9 t214.length co9] rfl (by (try simp only [List.map_toArray, List.map_cons, List.map_nil]); first | done | rfl | (simp only [List.length_drop, List.length_take]; rfl)) ?_; (with_reducible refine (impl_SingMany.calls kj5 _ _ t214 t243 _ ?side1 ?side2 ?side3 A34.out).mono ?_); (case side1 => exact cu (Kd.R_reads' HO_4.out).2.2); (case side2 => exact (Kd.R_reads' HO_4.out).2.1); (case side3 => first | exact HTL.out | exact TabAt.below HTL.out (bu HB.out)); rintro e w45 ⟨rfl, hb⟩; refine ⟨_, rfl, ?_⟩; have n0_ := am (Kd.R_below (ru HO_3.out) hb); have n1_ := am (Kd.R_below (ru HO_4.out) hb); have n2_ := am (Kd.R_below (ru HO_5.out) hb); have n3_ := am (Kd.R_below (ru HO_7.out) hb); have n4_ := am (Kd.R_below (ru HO232.out) hb); have n5_ := am (Kd.R_below (ru HO236.out) hb); have n6_ := am (Kd.R_below (ru HO240.out) hb); have n7_ := am (below_step (bu HB.out) hb); clear HO_3; clear HO_4; clear HO_5; clear HO_7; clear HO232; clear HO236; clear HO240; clear HB; have HO_3 := n0_; have HO_4 := n1_; have HO_5 := n2_; have HO_7 := n3_; have HO232 := n4_; have HO236 := n5_; have HO240 := n6_; have HB := n7_; clear n0_ n1_ n2_ n3_ n4_ n5_ n6_ n7_; (try clear hb); (try clear hb2); (try clear hk); (try clear hi)))
       go_meet
       case rel => exact ⟨_, (true), (by first | rfl | (simp; done) | (simp [*]; done)), H', ⟨by have := HJ5.out; first | omega | exact Nat.le_refl _⟩, ⟨by (with_reducible repeat (first | apply Kd.R_alloc | apply Kd.R_drewN | apply Kd.R_drew)); exact Kd.R_mono HO_3.out (fun _ hk => ⟨hk.1, hk.2.1⟩)⟩, ⟨by (with_reducible repeat (first | apply Kd.R_alloc | apply Kd.R_drewN | apply Kd.R_drew)); exact Kd.R_mono HO_4.out (fun _ hk => ⟨hk.1, hk.2.1⟩)⟩, ⟨by (with_reducible repeat (first | apply Kd.R_alloc | apply Kd.R_drewN | apply Kd.R_drew)); exact Kd.R_mono HO_5.out (fun _ hk => ⟨hk.1, hk.2.1⟩)⟩, ⟨by (with_reducible repeat (first | apply Kd.R_alloc | apply Kd.R_drewN | apply Kd.R_drew)); exact Kd.R_mono HO232.out (fun _ hk => ⟨hk.1.2, hk.2⟩)⟩, ⟨by (with_reducible repeat (first | apply Kd.R_alloc | apply Kd.R_drewN | apply Kd.R_drew)); exact Kd.R_mono HO236.out (fun _ hk => ⟨hk.1.2, hk.2⟩)⟩, ⟨by (with_reducible repeat (first | apply Kd.R_alloc | apply Kd.R_drewN | apply Kd.R_drew)); exact Kd.R_mono HO240.out (fun _ hk => ⟨hk.1.2, hk.2⟩)⟩, ⟨bu HB.out⟩⟩
     case rest =>
      clear HC27
      try clear c1
      try clear c2
      try clear c2b0
      try clear c2b1
      try clear p2
      try clear c3
      try clear c4
      try clear c5
      try clear p6
      try clear c10
      try clear c12
      try clear c12b0
      try clear c12b1
      try clear c12b2
      try clear c14
      try clear c19
      try clear c20
      try clear c20b0
      try clear c20b1
      try clear c20b2
      try clear c35
      try clear c35b0
      try clear c35b1
      try clear c36
      try clear c37
      try clear p2
      obtain ⟨kq, x88_26, rfl, HA, HJ26, HO_3, HO_4, HO_5, HO_9, HO_11, HO_13, HB⟩ := hcut
      cases kq with
      | zero => exact absurd HA.out (by simp [laws_FnMelodyJoin.j1])
      | succ kj26 =>
       have H := HA.out
       clear HA
       simp only [laws_FnMelodyJoin.j1] at H
       by_cases c46 : x88_26 = true
       ·subst c46
        have H1 : (some false) = some r := by rw [if_pos rfl] at H; exact H
        clear H
        have H := H1
        clear H1
        obtain rfl := Option.some.inj H
        go_wp2
        go_ret
        exact ⟨by first | rfl | (simp [errW_none, errW_some] <;> rfl) | (simp [*, errW_none, errW_some] <;> rfl), bu HB.out⟩
       ·replace c46 := Bool.eq_false_iff.mpr c46
        subst c46
        have H1 : (if (t213.length : Int) > 0 then (if (t214.length : Int) > 0 then ((impl_MelodyText.f kj26 t219).bind fun t244 => ((impl_MelodyText.f kj26 t213).bind fun t245 => (if t245.size + 1 ≤ 9223372036854775807 then ((impl_MelodyText.f kj26 t214).bind fun t246 => (if (t245 ++ (⟨#[32]⟩ : ByteArray)).size + t246.size ≤ 9223372036854775807 then (laws_FnMelodyJoin.j2 kj26 t213 t214 t219 t229 t233 t237 t238 (t244.toList != ((t245 ++ (⟨#[32]⟩ : ByteArray)) ++ t246).toList)) else (none))) else (none)))) else (laws_FnMelodyJoin.j2 kj26 t213 t214 t219 t229 t233 t237 t238 false)) else (laws_FnMelodyJoin.j2 kj26 t213 t214 t219 t229 t233 t237 t238 false)) = some r := by rw [if_neg (show ¬ (false = true) by decide)] at H; exact H
        clear H
        have H := H1
        clear H1
        have HC47 := am H
        clear H
        go_upto_region 13 with (fail)
        go_cut [107] (fun v107 wc => ∃ (kq : Nat) (x107_46 : Bool), v107 = .bool x107_46 ∧ Aside0 (laws_FnMelodyJoin.j2 kq t213 t214 t219 t229 t233 t237 t238 x107_46 = some r) ∧ Aside0 (kq ≤ kj26) ∧ Aside0 (Kd.R k30 30 wc w.heap.size (fun k_ => some k_ ≠ ((.slice Ao9 t214.length co9) : Value).ownBlock ∧ some k_ ≠ ((.slice Ao30 t219.length co30) : Value).ownBlock) (.slice Ao8 t213.length co8) t213) ∧ Aside0 (Kd.R k30 30 wc w.heap.size (fun k_ => some k_ ≠ ((.slice Ao8 t213.length co8) : Value).ownBlock ∧ some k_ ≠ ((.slice Ao30 t219.length co30) : Value).ownBlock) (.slice Ao9 t214.length co9) t214) ∧ Aside0 (Kd.R k30 30 wc w.heap.size (fun k_ => some k_ ≠ ((.slice Ao8 t213.length co8) : Value).ownBlock ∧ some k_ ≠ ((.slice Ao9 t214.length co9) : Value).ownBlock) (.slice Ao30 t219.length co30) t219) ∧ Aside0 (Kd.R (Kd.int .i64) 3 wc w.heap.size (fun k_ => some k_ ≠ (v235 : Value).ownBlock ∧ some k_ ≠ (v239 : Value).ownBlock) v231 t229) ∧ Aside0 (Kd.R (Kd.int .i64) 3 wc w.heap.size (fun k_ => some k_ ≠ (v231 : Value).ownBlock ∧ some k_ ≠ (v239 : Value).ownBlock) v235 t233) ∧ Aside0 (Kd.R (Kd.int .i64) 3 wc w.heap.size (fun k_ => some k_ ≠ (v231 : Value).ownBlock ∧ some k_ ≠ (v235 : Value).ownBlock) v239 t237) ∧ Aside0 (Below w.heap.size w wc))
        case first =>
         have H := HC47.out
         clear HC47
         by_cases c48 : (t213.length : Int) > 0
         ·rw [if_pos c48] at H
          have c48b0 : decide (0 < (t213.length : Int)) = true := decide_eq_true c48
          have c48b1 : decide (0 < t213.length) = true := decide_eq_true (by omega)
          clear c48
          (first | rw [c48b0] | (simp only [i64_w, i32_w]; rw [c48b0]) | skip)
          by_cases c49 : (t214.length : Int) > 0
          ·rw [if_pos c49] at H
           have c49b0 : decide (0 < (t214.length : Int)) = true := decide_eq_true c49
           have c49b1 : decide (0 < t214.length) = true := decide_eq_true (by omega)
           clear c49
           replace H := Option.bind_eq_some_iff.mp H
           obtain ⟨t244, A500, H⟩ := H
           replace H : ((impl_MelodyText.f kj26 t213).bind fun t245 => (if t245.size + 1 ≤ 9223372036854775807 then ((impl_MelodyText.f kj26 t214).bind fun t246 => (if (t245 ++ (⟨#[32]⟩ : ByteArray)).size + t246.size ≤ 9223372036854775807 then (laws_FnMelodyJoin.j2 kj26 t213 t214 t219 t229 t233 t237 t238 (t244.toList != ((t245 ++ (⟨#[32]⟩ : ByteArray)) ++ t246).toList)) else (none))) else (none))) = some r := H
           have A50 := am A500
           clear A500
           replace H := Option.bind_eq_some_iff.mp H
           obtain ⟨t245, A510, H⟩ := H
           replace H : (if t245.size + 1 ≤ 9223372036854775807 then ((impl_MelodyText.f kj26 t214).bind fun t246 => (if (t245 ++ (⟨#[32]⟩ : ByteArray)).size + t246.size ≤ 9223372036854775807 then (laws_FnMelodyJoin.j2 kj26 t213 t214 t219 t229 t233 t237 t238 (t244.toList != ((t245 ++ (⟨#[32]⟩ : ByteArray)) ++ t246).toList)) else (none))) else (none)) = some r := H
           have A51 := am A510
           clear A510
           by_cases c52 : t245.size + 1 ≤ 9223372036854775807
           ·rw [if_pos c52] at H
            have c52b0 := eq_true c52
            have c52b1 : decide (t245.size + 1 ≤ 9223372036854775807) = true := decide_eq_true c52
            try have c52b2 : (9223372036854775807 < t245.size + 1) = False := eq_false (Nat.not_lt.2 c52)
            replace H := Option.bind_eq_some_iff.mp H
            obtain ⟨t246, A530, H⟩ := H
            replace H : (if (t245 ++ (⟨#[32]⟩ : ByteArray)).size + t246.size ≤ 9223372036854775807 then (laws_FnMelodyJoin.j2 kj26 t213 t214 t219 t229 t233 t237 t238 (t244.toList != ((t245 ++ (⟨#[32]⟩ : ByteArray)) ++ t246).toList)) else (none)) = some r := H
            have A53 := am A530
            clear A530
            by_cases c54 : (t245 ++ (⟨#[32]⟩ : ByteArray)).size + t246.size ≤ 9223372036854775807
            ·rw [if_pos c54] at H
             have c54b0 := eq_true c54
             have c54b1 : decide ((t245 ++ (⟨#[32]⟩ : ByteArray)).size + t246.size ≤ 9223372036854775807) = true := decide_eq_true c54
             try have c54b2 : (9223372036854775807 < (t245 ++ (⟨#[32]⟩ : ByteArray)).size + t246.size) = False := eq_false (Nat.not_lt.2 c54)
             have H' := am H
             clear H
             go_wp2_with (first | (go_at_call 51; (with_reducible refine (impl_MelodyText.calls kj26 _ _ t219 t244 _ ?side1 ?side2 ?side3 A50.out).mono ?_); (case side1 => exact cu (Kd.R_reads' HO_5.out).2.2); (case side2 => exact (Kd.R_reads' HO_5.out).2.1); (case side3 => first | exact HTL.out | exact TabAt.below HTL.out (bu HB.out)); rintro e w55 ⟨rfl, hb⟩; have n0_ := am (Kd.R_below (ru HO_3.out) hb); have n1_ := am (Kd.R_below (ru HO_4.out) hb); have n2_ := am (Kd.R_below (ru HO_5.out) hb); have n3_ := am (Kd.R_below (ru HO_9.out) hb); have n4_ := am (Kd.R_below (ru HO_11.out) hb); have n5_ := am (Kd.R_below (ru HO_13.out) hb); have n6_ := am (below_step (bu HB.out) hb); clear HO_3; clear HO_4; clear HO_5; clear HO_9; clear HO_11; clear HO_13; clear HB; have HO_3 := n0_; have HO_4 := n1_; have HO_5 := n2_; have HO_9 := n3_; have HO_11 := n4_; have HO_13 := n5_; have HB := n6_; clear n0_ n1_ n2_ n3_ n4_ n5_ n6_; (try clear hb); (try clear hb2); (try clear hk); (try clear hi)) | (go_at_call 51; (with_reducible refine (impl_MelodyText.calls kj26 _ _ t213 t245 _ ?side1 ?side2 ?side3 A51.out).mono ?_); (case side1 => exact cu (Kd.R_reads' HO_3.out).2.2); (case side2 => exact (Kd.R_reads' HO_3.out).2.1); (case side3 => first | exact HTL.out | exact TabAt.below HTL.out (bu HB.out)); rintro e w56 ⟨rfl, hb⟩; have n0_ := am (Kd.R_below (ru HO_3.out) hb); have n1_ := am (Kd.R_below (ru HO_4.out) hb); have n2_ := am (Kd.R_below (ru HO_5.out) hb); have n3_ := am (Kd.R_below (ru HO_9.out) hb); have n4_ := am (Kd.R_below (ru HO_11.out) hb); have n5_ := am (Kd.R_below (ru HO_13.out) hb); have n6_ := am (below_step (bu HB.out) hb); clear HO_3; clear HO_4; clear HO_5; clear HO_9; clear HO_11; clear HO_13; clear HB; have HO_3 := n0_; have HO_4 := n1_; have HO_5 := n2_; have HO_9 := n3_; have HO_11 := n4_; have HO_13 := n5_; have HB := n6_; clear n0_ n1_ n2_ n3_ n4_ n5_ n6_; (try clear hb); (try clear hb2); (try clear hk); (try clear hi)) | (go_at_call 51; (with_reducible refine (impl_MelodyText.calls kj26 _ _ t214 t246 _ ?side1 ?side2 ?side3 A53.out).mono ?_); (case side1 => exact cu (Kd.R_reads' HO_4.out).2.2); (case side2 => exact (Kd.R_reads' HO_4.out).2.1); (case side3 => first | exact HTL.out | exact TabAt.below HTL.out (bu HB.out)); rintro e w57 ⟨rfl, hb⟩; have n0_ := am (Kd.R_below (ru HO_3.out) hb); have n1_ := am (Kd.R_below (ru HO_4.out) hb); have n2_ := am (Kd.R_below (ru HO_5.out) hb); have n3_ := am (Kd.R_below (ru HO_9.out) hb); have n4_ := am (Kd.R_below (ru HO_11.out) hb); have n5_ := am (Kd.R_below (ru HO_13.out) hb); have n6_ := am (below_step (bu HB.out) hb); clear HO_3; clear HO_4; clear HO_5; clear HO_9; clear HO_11; clear HO_13; clear HB; have HO_3 := n0_; have HO_4 := n1_; have HO_5 := n2_; have HO_9 := n3_; have HO_11 := n4_; have HO_13 := n5_; have HB := n6_; clear n0_ n1_ n2_ n3_ n4_ n5_ n6_; (try clear hb); (try clear hb2); (try clear hk); (try clear hi)))
             go_meet
             case rel => exact ⟨_, ((t244.toList != ((t245 ++ (⟨#[32]⟩ : ByteArray)) ++ t246).toList)), (by first | rfl | (simp; done) | (simp [*]; done)), H', ⟨by have := HJ5.out; have := HJ26.out; first | omega | exact Nat.le_refl _⟩, ⟨ru HO_3.out⟩, ⟨ru HO_4.out⟩, ⟨ru HO_5.out⟩, ⟨ru HO_9.out⟩, ⟨ru HO_11.out⟩, ⟨ru HO_13.out⟩, ⟨bu HB.out⟩⟩
            ·rw [if_neg c54] at H
             exact absurd H (by simp)
           ·rw [if_neg c52] at H
            exact absurd H (by simp)
          ·rw [if_neg c49] at H
           have c49b0 : decide (0 < (t214.length : Int)) = false := decide_eq_false c49
           have c49b1 : decide (0 < t214.length) = false := decide_eq_false (by omega)
           clear c49
           have H' := am H
           clear H
           go_wp2
           go_meet
           case rel => exact ⟨_, (false), (by first | rfl | (simp; done) | (simp [*]; done)), H', ⟨by have := HJ5.out; have := HJ26.out; first | omega | exact Nat.le_refl _⟩, ⟨ru HO_3.out⟩, ⟨ru HO_4.out⟩, ⟨ru HO_5.out⟩, ⟨ru HO_9.out⟩, ⟨ru HO_11.out⟩, ⟨ru HO_13.out⟩, ⟨bu HB.out⟩⟩
         ·rw [if_neg c48] at H
          have c48b0 : decide (0 < (t213.length : Int)) = false := decide_eq_false c48
          have c48b1 : decide (0 < t213.length) = false := decide_eq_false (by omega)
          clear c48
          (first | rw [c48b0] | (simp only [i64_w, i32_w]; rw [c48b0]) | skip)
          have H' := am H
          clear H
          go_wp2
          go_meet
          case rel => exact ⟨_, (false), (by first | rfl | (simp; done) | (simp [*]; done)), H', ⟨by have := HJ5.out; have := HJ26.out; first | omega | exact Nat.le_refl _⟩, ⟨ru HO_3.out⟩, ⟨ru HO_4.out⟩, ⟨ru HO_5.out⟩, ⟨ru HO_9.out⟩, ⟨ru HO_11.out⟩, ⟨ru HO_13.out⟩, ⟨bu HB.out⟩⟩
        case rest =>
         clear HC47
         try clear c1
         try clear c2
         try clear c2b0
         try clear c2b1
         try clear p2
         try clear c3
         try clear c4
         try clear c5
         try clear p6
         try clear c10
         try clear c12
         try clear c12b0
         try clear c12b1
         try clear c12b2
         try clear c14
         try clear c19
         try clear c20
         try clear c20b0
         try clear c20b1
         try clear c20b2
         try clear c35
         try clear c35b0
         try clear c35b1
         try clear c36
         try clear c37
         try clear c46
         try clear c47
         try clear c48
         try clear c48b0
         try clear c48b1
         try clear c49
         try clear c49b0
         try clear c49b1
         try clear c50
         try clear c52
         try clear c52b0
         try clear c52b1
         try clear c52b2
         try clear c54
         try clear c54b0
         try clear c54b1
         try clear c54b2
         try clear p2
         try clear p6
         obtain ⟨kq, x107_46, rfl, HA, HJ46, HO_3, HO_4, HO_5, HO_9, HO_11, HO_13, HB⟩ := hcut
         cases kq with
         | zero => exact absurd HA.out (by simp [laws_FnMelodyJoin.j2])
         | succ kj46 =>
          have H := HA.out
          clear HA
          simp only [laws_FnMelodyJoin.j2] at H
          by_cases c58 : x107_46 = true
          ·subst c58
           have H1 : (some false) = some r := by rw [if_pos rfl] at H; exact H
           clear H
           have H := H1
           clear H1
           obtain rfl := Option.some.inj H
           go_wp2
           go_ret
           exact ⟨by first | rfl | (simp [errW_none, errW_some] <;> rfl) | (simp [*, errW_none, errW_some] <;> rfl), bu HB.out⟩
          ·replace c58 := Bool.eq_false_iff.mpr c58
           subst c58
           have H1 : ((impl_SingMutations.f kj46 t219 t237).bind fun t247 => ((impl_SingMutations.f kj46 t213 t229).bind fun t248 => ((impl_SingMutations.f kj46 t214 t233).bind fun t249 => (if t238 = true then (if t247 ≥ (wrap64 (t248 + t249)) then (some (decide (t247 ≤ (wrap64 ((wrap64 (t248 + t249)) + 1))))) else (some false)) else (some true))))) = some r := by rw [if_neg (show ¬ (false = true) by decide)] at H; exact H
           clear H
           have H := H1
           clear H1
           replace H := Option.bind_eq_some_iff.mp H
           obtain ⟨t247, A590, H⟩ := H
           replace H : ((impl_SingMutations.f kj46 t213 t229).bind fun t248 => ((impl_SingMutations.f kj46 t214 t233).bind fun t249 => (if t238 = true then (if t247 ≥ (wrap64 (t248 + t249)) then (some (decide (t247 ≤ (wrap64 ((wrap64 (t248 + t249)) + 1))))) else (some false)) else (some true)))) = some r := H
           have A59 := am A590
           clear A590
           replace H := Option.bind_eq_some_iff.mp H
           obtain ⟨t248, A600, H⟩ := H
           replace H : ((impl_SingMutations.f kj46 t214 t233).bind fun t249 => (if t238 = true then (if t247 ≥ (wrap64 (t248 + t249)) then (some (decide (t247 ≤ (wrap64 ((wrap64 (t248 + t249)) + 1))))) else (some false)) else (some true))) = some r := H
           have A60 := am A600
           clear A600
           replace H := Option.bind_eq_some_iff.mp H
           obtain ⟨t249, A610, H⟩ := H
           replace H : (if t238 = true then (if t247 ≥ (wrap64 (t248 + t249)) then (some (decide (t247 ≤ (wrap64 ((wrap64 (t248 + t249)) + 1))))) else (some false)) else (some true)) = some r := H
           have A61 := am A610
           clear A610
           by_cases c62 : t238 = true
           ·subst c62
            have H1 : (if t247 ≥ (wrap64 (t248 + t249)) then (some (decide (t247 ≤ (wrap64 ((wrap64 (t248 + t249)) + 1))))) else (some false)) = some r := by rw [if_pos rfl] at H; exact H
            clear H
            have H := H1
            clear H1
            by_cases c63 : t247 ≥ (wrap64 (t248 + t249))
            ·rw [if_pos c63] at H
             have c63b0 : decide ((wrap64 (t248 + t249)) ≤ t247) = true := decide_eq_true c63
             clear c63
             obtain rfl := Option.some.inj H
             obtain ⟨Ao64, co64, eo64⟩ := Kd.R_slice HO_13.out
             subst eo64
             go_wp2_with (first | ((with_reducible refine gate_callee (f := 39) rfl ?_); refine goesL_ (some 110) rfl rfl Tryd.func39 (by kernel_rfl) rfl #[.slice Ao30 t219.length co30, .slice Ao64 t237.length co64] rfl (by (try simp only [List.map_toArray, List.map_cons, List.map_nil]); first | done | rfl | (simp only [List.length_drop, List.length_take]; rfl)) ?_; (with_reducible refine (impl_SingMutations.calls kj46 _ _ t219 _ _ t237 t247 _ ?side1 ?side2 ?side3 ?side4 ?side5 A59.out).mono ?_); (case side1 => exact cu (Kd.R_reads' HO_5.out).2.2); (case side2 => exact (Kd.R_reads' HO_5.out).2.1); (case side3 => exact cu (Kd.R_reads' HO_13.out).2.2); (case side4 => exact (Kd.R_reads' HO_13.out).2.1); (case side5 => first | exact HTL.out | exact TabAt.below HTL.out (bu HB.out)); rintro e w65 ⟨rfl, hb⟩; refine ⟨_, rfl, ?_⟩; have n0_ := am (Kd.R_below (ru HO_3.out) hb); have n1_ := am (Kd.R_below (ru HO_4.out) hb); have n2_ := am (Kd.R_below (ru HO_5.out) hb); have n3_ := am (Kd.R_below (ru HO_9.out) hb); have n4_ := am (Kd.R_below (ru HO_11.out) hb); have n5_ := am (Kd.R_below (ru HO_13.out) hb); have n6_ := am (below_step (bu HB.out) hb); clear HO_3; clear HO_4; clear HO_5; clear HO_9; clear HO_11; clear HO_13; clear HB; have HO_3 := n0_; have HO_4 := n1_; have HO_5 := n2_; have HO_9 := n3_; have HO_11 := n4_; have HO_13 := n5_; have HB := n6_; clear n0_ n1_ n2_ n3_ n4_ n5_ n6_; (try clear hb); (try clear hb2); (try clear hk); (try clear hi); obtain ⟨Ao66, co66, eo66⟩ := Kd.R_slice HO_9.out; subst eo66) | ((with_reducible refine gate_callee (f := 39) rfl ?_); refine goesL_ (some 113) rfl rfl Tryd.func39 (by kernel_rfl) rfl #[.slice Ao8 t213.length co8, .slice Ao66 t229.length co66] rfl (by (try simp only [List.map_toArray, List.map_cons, List.map_nil]); first | done | rfl | (simp only [List.length_drop, List.length_take]; rfl)) ?_; (with_reducible refine (impl_SingMutations.calls kj46 _ _ t213 _ _ t229 t248 _ ?side1 ?side2 ?side3 ?side4 ?side5 A60.out).mono ?_); (case side1 => exact cu (Kd.R_reads' HO_3.out).2.2); (case side2 => exact (Kd.R_reads' HO_3.out).2.1); (case side3 => exact cu (Kd.R_reads' HO_9.out).2.2); (case side4 => exact (Kd.R_reads' HO_9.out).2.1); (case side5 => first | exact HTL.out | exact TabAt.below HTL.out (bu HB.out)); rintro e w67 ⟨rfl, hb⟩; refine ⟨_, rfl, ?_⟩; have n0_ := am (Kd.R_below (ru HO_3.out) hb); have n1_ := am (Kd.R_below (ru HO_4.out) hb); have n2_ := am (Kd.R_below (ru HO_5.out) hb); have n3_ := am (Kd.R_below (ru HO_9.out) hb); have n4_ := am (Kd.R_below (ru HO_11.out) hb); have n5_ := am (Kd.R_below (ru HO_13.out) hb); have n6_ := am (below_step (bu HB.out) hb); clear HO_3; clear HO_4; clear HO_5; clear HO_9; clear HO_11; clear HO_13; clear HB; have HO_3 := n0_; have HO_4 := n1_; have HO_5 := n2_; have HO_9 := n3_; have HO_11 := n4_; have HO_13 := n5_; have HB := n6_; clear n0_ n1_ n2_ n3_ n4_ n5_ n6_; (try clear hb); (try clear hb2); (try clear hk); (try clear hi); obtain ⟨Ao68, co68, eo68⟩ := Kd.R_slice HO_11.out; subst eo68) | ((with_reducible refine gate_callee (f := 39) rfl ?_); refine goesL_ (some 116) rfl rfl Tryd.func39 (by kernel_rfl) rfl #[.slice Ao9 t214.length co9, .slice Ao68 t233.length co68] rfl (by (try simp only [List.map_toArray, List.map_cons, List.map_nil]); first | done | rfl | (simp only [List.length_drop, List.length_take]; rfl)) ?_; (with_reducible refine (impl_SingMutations.calls kj46 _ _ t214 _ _ t233 t249 _ ?side1 ?side2 ?side3 ?side4 ?side5 A61.out).mono ?_); (case side1 => exact cu (Kd.R_reads' HO_4.out).2.2); (case side2 => exact (Kd.R_reads' HO_4.out).2.1); (case side3 => exact cu (Kd.R_reads' HO_11.out).2.2); (case side4 => exact (Kd.R_reads' HO_11.out).2.1); (case side5 => first | exact HTL.out | exact TabAt.below HTL.out (bu HB.out)); rintro e w69 ⟨rfl, hb⟩; refine ⟨_, rfl, ?_⟩; have n0_ := am (Kd.R_below (ru HO_3.out) hb); have n1_ := am (Kd.R_below (ru HO_4.out) hb); have n2_ := am (Kd.R_below (ru HO_5.out) hb); have n3_ := am (Kd.R_below (ru HO_9.out) hb); have n4_ := am (Kd.R_below (ru HO_11.out) hb); have n5_ := am (Kd.R_below (ru HO_13.out) hb); have n6_ := am (below_step (bu HB.out) hb); clear HO_3; clear HO_4; clear HO_5; clear HO_9; clear HO_11; clear HO_13; clear HB; have HO_3 := n0_; have HO_4 := n1_; have HO_5 := n2_; have HO_9 := n3_; have HO_11 := n4_; have HO_13 := n5_; have HB := n6_; clear n0_ n1_ n2_ n3_ n4_ n5_ n6_; (try clear hb); (try clear hb2); (try clear hk); (try clear hi)))
             go_ret
             exact ⟨by first | rfl | (simp [errW_none, errW_some] <;> rfl) | (simp [*, errW_none, errW_some] <;> rfl), bu HB.out⟩
            ·rw [if_neg c63] at H
             have c63b0 : decide ((wrap64 (t248 + t249)) ≤ t247) = false := decide_eq_false c63
             clear c63
             obtain rfl := Option.some.inj H
             obtain ⟨Ao70, co70, eo70⟩ := Kd.R_slice HO_13.out
             subst eo70
             go_wp2_with (first | ((with_reducible refine gate_callee (f := 39) rfl ?_); refine goesL_ (some 110) rfl rfl Tryd.func39 (by kernel_rfl) rfl #[.slice Ao30 t219.length co30, .slice Ao70 t237.length co70] rfl (by (try simp only [List.map_toArray, List.map_cons, List.map_nil]); first | done | rfl | (simp only [List.length_drop, List.length_take]; rfl)) ?_; (with_reducible refine (impl_SingMutations.calls kj46 _ _ t219 _ _ t237 t247 _ ?side1 ?side2 ?side3 ?side4 ?side5 A59.out).mono ?_); (case side1 => exact cu (Kd.R_reads' HO_5.out).2.2); (case side2 => exact (Kd.R_reads' HO_5.out).2.1); (case side3 => exact cu (Kd.R_reads' HO_13.out).2.2); (case side4 => exact (Kd.R_reads' HO_13.out).2.1); (case side5 => first | exact HTL.out | exact TabAt.below HTL.out (bu HB.out)); rintro e w71 ⟨rfl, hb⟩; refine ⟨_, rfl, ?_⟩; have n0_ := am (Kd.R_below (ru HO_3.out) hb); have n1_ := am (Kd.R_below (ru HO_4.out) hb); have n2_ := am (Kd.R_below (ru HO_5.out) hb); have n3_ := am (Kd.R_below (ru HO_9.out) hb); have n4_ := am (Kd.R_below (ru HO_11.out) hb); have n5_ := am (Kd.R_below (ru HO_13.out) hb); have n6_ := am (below_step (bu HB.out) hb); clear HO_3; clear HO_4; clear HO_5; clear HO_9; clear HO_11; clear HO_13; clear HB; have HO_3 := n0_; have HO_4 := n1_; have HO_5 := n2_; have HO_9 := n3_; have HO_11 := n4_; have HO_13 := n5_; have HB := n6_; clear n0_ n1_ n2_ n3_ n4_ n5_ n6_; (try clear hb); (try clear hb2); (try clear hk); (try clear hi); obtain ⟨Ao72, co72, eo72⟩ := Kd.R_slice HO_9.out; subst eo72) | ((with_reducible refine gate_callee (f := 39) rfl ?_); refine goesL_ (some 113) rfl rfl Tryd.func39 (by kernel_rfl) rfl #[.slice Ao8 t213.length co8, .slice Ao72 t229.length co72] rfl (by (try simp only [List.map_toArray, List.map_cons, List.map_nil]); first | done | rfl | (simp only [List.length_drop, List.length_take]; rfl)) ?_; (with_reducible refine (impl_SingMutations.calls kj46 _ _ t213 _ _ t229 t248 _ ?side1 ?side2 ?side3 ?side4 ?side5 A60.out).mono ?_); (case side1 => exact cu (Kd.R_reads' HO_3.out).2.2); (case side2 => exact (Kd.R_reads' HO_3.out).2.1); (case side3 => exact cu (Kd.R_reads' HO_9.out).2.2); (case side4 => exact (Kd.R_reads' HO_9.out).2.1); (case side5 => first | exact HTL.out | exact TabAt.below HTL.out (bu HB.out)); rintro e w73 ⟨rfl, hb⟩; refine ⟨_, rfl, ?_⟩; have n0_ := am (Kd.R_below (ru HO_3.out) hb); have n1_ := am (Kd.R_below (ru HO_4.out) hb); have n2_ := am (Kd.R_below (ru HO_5.out) hb); have n3_ := am (Kd.R_below (ru HO_9.out) hb); have n4_ := am (Kd.R_below (ru HO_11.out) hb); have n5_ := am (Kd.R_below (ru HO_13.out) hb); have n6_ := am (below_step (bu HB.out) hb); clear HO_3; clear HO_4; clear HO_5; clear HO_9; clear HO_11; clear HO_13; clear HB; have HO_3 := n0_; have HO_4 := n1_; have HO_5 := n2_; have HO_9 := n3_; have HO_11 := n4_; have HO_13 := n5_; have HB := n6_; clear n0_ n1_ n2_ n3_ n4_ n5_ n6_; (try clear hb); (try clear hb2); (try clear hk); (try clear hi); obtain ⟨Ao74, co74, eo74⟩ := Kd.R_slice HO_11.out; subst eo74) | ((with_reducible refine gate_callee (f := 39) rfl ?_); refine goesL_ (some 116) rfl rfl Tryd.func39 (by kernel_rfl) rfl #[.slice Ao9 t214.length co9, .slice Ao74 t233.length co74] rfl (by (try simp only [List.map_toArray, List.map_cons, List.map_nil]); first | done | rfl | (simp only [List.length_drop, List.length_take]; rfl)) ?_; (with_reducible refine (impl_SingMutations.calls kj46 _ _ t214 _ _ t233 t249 _ ?side1 ?side2 ?side3 ?side4 ?side5 A61.out).mono ?_); (case side1 => exact cu (Kd.R_reads' HO_4.out).2.2); (case side2 => exact (Kd.R_reads' HO_4.out).2.1); (case side3 => exact cu (Kd.R_reads' HO_11.out).2.2); (case side4 => exact (Kd.R_reads' HO_11.out).2.1); (case side5 => first | exact HTL.out | exact TabAt.below HTL.out (bu HB.out)); rintro e w75 ⟨rfl, hb⟩; refine ⟨_, rfl, ?_⟩; have n0_ := am (Kd.R_below (ru HO_3.out) hb); have n1_ := am (Kd.R_below (ru HO_4.out) hb); have n2_ := am (Kd.R_below (ru HO_5.out) hb); have n3_ := am (Kd.R_below (ru HO_9.out) hb); have n4_ := am (Kd.R_below (ru HO_11.out) hb); have n5_ := am (Kd.R_below (ru HO_13.out) hb); have n6_ := am (below_step (bu HB.out) hb); clear HO_3; clear HO_4; clear HO_5; clear HO_9; clear HO_11; clear HO_13; clear HB; have HO_3 := n0_; have HO_4 := n1_; have HO_5 := n2_; have HO_9 := n3_; have HO_11 := n4_; have HO_13 := n5_; have HB := n6_; clear n0_ n1_ n2_ n3_ n4_ n5_ n6_; (try clear hb); (try clear hb2); (try clear hk); (try clear hi)))
             go_ret
             exact ⟨by first | rfl | (simp [errW_none, errW_some] <;> rfl) | (simp [*, errW_none, errW_some] <;> rfl), bu HB.out⟩
           ·replace c62 := Bool.eq_false_iff.mpr c62
            subst c62
            have H1 : (some true) = some r := by rw [if_neg (show ¬ (false = true) by decide)] at H; exact H
            clear H
            have H := H1
            clear H1
            obtain rfl := Option.some.inj H
            obtain ⟨Ao76, co76, eo76⟩ := Kd.R_slice HO_13.out
            subst eo76
            go_wp2_with (first | ((with_reducible refine gate_callee (f := 39) rfl ?_); refine goesL_ (some 110) rfl rfl Tryd.func39 (by kernel_rfl) rfl #[.slice Ao30 t219.length co30, .slice Ao76 t237.length co76] rfl (by (try simp only [List.map_toArray, List.map_cons, List.map_nil]); first | done | rfl | (simp only [List.length_drop, List.length_take]; rfl)) ?_; (with_reducible refine (impl_SingMutations.calls kj46 _ _ t219 _ _ t237 t247 _ ?side1 ?side2 ?side3 ?side4 ?side5 A59.out).mono ?_); (case side1 => exact cu (Kd.R_reads' HO_5.out).2.2); (case side2 => exact (Kd.R_reads' HO_5.out).2.1); (case side3 => exact cu (Kd.R_reads' HO_13.out).2.2); (case side4 => exact (Kd.R_reads' HO_13.out).2.1); (case side5 => first | exact HTL.out | exact TabAt.below HTL.out (bu HB.out)); rintro e w77 ⟨rfl, hb⟩; refine ⟨_, rfl, ?_⟩; have n0_ := am (Kd.R_below (ru HO_3.out) hb); have n1_ := am (Kd.R_below (ru HO_4.out) hb); have n2_ := am (Kd.R_below (ru HO_5.out) hb); have n3_ := am (Kd.R_below (ru HO_9.out) hb); have n4_ := am (Kd.R_below (ru HO_11.out) hb); have n5_ := am (Kd.R_below (ru HO_13.out) hb); have n6_ := am (below_step (bu HB.out) hb); clear HO_3; clear HO_4; clear HO_5; clear HO_9; clear HO_11; clear HO_13; clear HB; have HO_3 := n0_; have HO_4 := n1_; have HO_5 := n2_; have HO_9 := n3_; have HO_11 := n4_; have HO_13 := n5_; have HB := n6_; clear n0_ n1_ n2_ n3_ n4_ n5_ n6_; (try clear hb); (try clear hb2); (try clear hk); (try clear hi); obtain ⟨Ao78, co78, eo78⟩ := Kd.R_slice HO_9.out; subst eo78) | ((with_reducible refine gate_callee (f := 39) rfl ?_); refine goesL_ (some 113) rfl rfl Tryd.func39 (by kernel_rfl) rfl #[.slice Ao8 t213.length co8, .slice Ao78 t229.length co78] rfl (by (try simp only [List.map_toArray, List.map_cons, List.map_nil]); first | done | rfl | (simp only [List.length_drop, List.length_take]; rfl)) ?_; (with_reducible refine (impl_SingMutations.calls kj46 _ _ t213 _ _ t229 t248 _ ?side1 ?side2 ?side3 ?side4 ?side5 A60.out).mono ?_); (case side1 => exact cu (Kd.R_reads' HO_3.out).2.2); (case side2 => exact (Kd.R_reads' HO_3.out).2.1); (case side3 => exact cu (Kd.R_reads' HO_9.out).2.2); (case side4 => exact (Kd.R_reads' HO_9.out).2.1); (case side5 => first | exact HTL.out | exact TabAt.below HTL.out (bu HB.out)); rintro e w79 ⟨rfl, hb⟩; refine ⟨_, rfl, ?_⟩; have n0_ := am (Kd.R_below (ru HO_3.out) hb); have n1_ := am (Kd.R_below (ru HO_4.out) hb); have n2_ := am (Kd.R_below (ru HO_5.out) hb); have n3_ := am (Kd.R_below (ru HO_9.out) hb); have n4_ := am (Kd.R_below (ru HO_11.out) hb); have n5_ := am (Kd.R_below (ru HO_13.out) hb); have n6_ := am (below_step (bu HB.out) hb); clear HO_3; clear HO_4; clear HO_5; clear HO_9; clear HO_11; clear HO_13; clear HB; have HO_3 := n0_; have HO_4 := n1_; have HO_5 := n2_; have HO_9 := n3_; have HO_11 := n4_; have HO_13 := n5_; have HB := n6_; clear n0_ n1_ n2_ n3_ n4_ n5_ n6_; (try clear hb); (try clear hb2); (try clear hk); (try clear hi); obtain ⟨Ao80, co80, eo80⟩ := Kd.R_slice HO_11.out; subst eo80) | ((with_reducible refine gate_callee (f := 39) rfl ?_); refine goesL_ (some 116) rfl rfl Tryd.func39 (by kernel_rfl) rfl #[.slice Ao9 t214.length co9, .slice Ao80 t233.length co80] rfl (by (try simp only [List.map_toArray, List.map_cons, List.map_nil]); first | done | rfl | (simp only [List.length_drop, List.length_take]; rfl)) ?_; (with_reducible refine (impl_SingMutations.calls kj46 _ _ t214 _ _ t233 t249 _ ?side1 ?side2 ?side3 ?side4 ?side5 A61.out).mono ?_); (case side1 => exact cu (Kd.R_reads' HO_4.out).2.2); (case side2 => exact (Kd.R_reads' HO_4.out).2.1); (case side3 => exact cu (Kd.R_reads' HO_11.out).2.2); (case side4 => exact (Kd.R_reads' HO_11.out).2.1); (case side5 => first | exact HTL.out | exact TabAt.below HTL.out (bu HB.out)); rintro e w81 ⟨rfl, hb⟩; refine ⟨_, rfl, ?_⟩; have n0_ := am (Kd.R_below (ru HO_3.out) hb); have n1_ := am (Kd.R_below (ru HO_4.out) hb); have n2_ := am (Kd.R_below (ru HO_5.out) hb); have n3_ := am (Kd.R_below (ru HO_9.out) hb); have n4_ := am (Kd.R_below (ru HO_11.out) hb); have n5_ := am (Kd.R_below (ru HO_13.out) hb); have n6_ := am (below_step (bu HB.out) hb); clear HO_3; clear HO_4; clear HO_5; clear HO_9; clear HO_11; clear HO_13; clear HB; have HO_3 := n0_; have HO_4 := n1_; have HO_5 := n2_; have HO_9 := n3_; have HO_11 := n4_; have HO_13 := n5_; have HB := n6_; clear n0_ n1_ n2_ n3_ n4_ n5_ n6_; (try clear hb); (try clear hb2); (try clear hk); (try clear hi)))
            go_ret
            exact ⟨by first | rfl | (simp [errW_none, errW_some] <;> rfl) | (simp [*, errW_none, errW_some] <;> rfl), bu HB.out⟩

end Go.Proofs.YtcndojoghmblaaaDoor.MJ
