-- Made by this session's gprint.py out of the translation. Not trusted: Lean checks it. -- SLIM -- SQUEEZED
import Derived.Test.YtjnkmckklmabcaaGreatDoorShelf
import Derived.Test.YtjnkmckklmabcaaGreatDoorXLx0
import Derived.Test.YtjnkmckklmabcaaGreatDoorXLx2
import Derived.Test.YtjnkmckklmabcaaGreatDoorXLx3
import Derived.Test.YtjnkmckklmabcaaGreatDoorXLx4
namespace Go.Proofs.YtjnkmckklmabcaaGreatDoor.XL
open Go.RowKit Go.Proofs.YtjnkmckklmabcaaGreatDoorW.PrintWords Go.Proofs.YtjnkmckklmabcaaGreatDoorW.PrintLast Go.Proofs.YtjnkmckklmabcaaGreatDoorW.PrintMore
attribute [local go_sem] max2_int min2_int max_two min_two max_three min_three max_four min_four   -- for this text's walks alone
set_option maxHeartbeats 8000000
set_option maxRecDepth 100000
set_option linter.unusedVariables false
set_option linter.unusedSimpArgs false

-- INNER impl_hexTable_at
def impl_HexSyllable.f (a0 : Int) (a1_0 : Int) (a1_1 : Bool) : Option Int := (impl_Tone_valid.f a1_0 a1_1).bind fun b => some (if isHex a0 = true then (if b = true then sylOf a0.toNat a1_0 a1_1 else -1) else -1)
theorem impl_HexSyllable.calls (a0 : Int) (a1_0 : Int) (a1_1 : Bool) (r : Int) (w : World) (hTL : TabL w) (h : impl_HexSyllable.f a0 a1_0 a1_1 = some r) :
  Calls Tryz.prog 76 #[.int .i64 a0, .agg #[.int .i64 a1_0, .bool a1_1]] w fun e w' => e = .returned (.int .i64 r) ∧ Below w.heap.size w w' := by
 have hu2 := Tryz.underlying74
 have HT := am (hTL.alloc (.cells #[.int .i64 a1_0, .bool a1_1] 74))
 have HB0 := am (below_alloc (Below.refl w.heap.size w) (.cells #[.int .i64 a1_0, .bool a1_1] 74))
 have HN := am (blk_new w (.cells #[.int .i64 a1_0, .bool a1_1] 74))
 clear hTL
 obtain ⟨b, hb0, h⟩ := Option.bind_eq_some_iff.mp h
 have HV := am hb0
 have e1 := Option.some.inj h
 clear h hb0
 rcases hex_cases a0 with ⟨hx, k, hk, hkx⟩ | ⟨hx, hno⟩
 ·rw [if_pos hx] at e1
  have HX := am hkx
  clear hx hkx
  cases b with
  | true =>
   rw [if_pos rfl] at e1
   have E1 := am e1
   clear e1
   go_enter Tryz.func76, Tryz.ntmps76
   go_wp2_with fail
   refine (hexachords_tab _ HT.out).mono ?_
   rintro e w1 ⟨g, ad, c, rfl, hTab, hb⟩
   have HB := am (below_step HB0.out hb)
   have HK := am (blk_below HN.out hb)
   have H := am hTab
   clear hb hTab
   go_wp2_with fail
   refine (hexAt_some H.out a0 k hk HX.out).mono ?_
   rintro e w2 ⟨rfl, rfl⟩
   have k0 : w1.cell? ⟨w.heap.size, 0, none⟩ = some (.int .i64 a1_0) := blk_cell HK.out 0
   have k1 : w1.cell? ⟨w.heap.size, 1, none⟩ = some (.bool a1_1) := blk_cell HK.out 1
   go_wp2_with fail
   refine (impl_Tone_valid.calls a1_0 a1_1 true _ HV.out).mono ?_
   rintro e w3 ⟨rfl, hb3⟩
   have HB2 := am (below_step HB.out hb3)
   have HK2 := am (blk_below HK.out hb3)
   have H2 := am (H.out.below hb3)
   clear hb3 k0 k1 HB HK H
   have k0 : w3.cell? ⟨w.heap.size, 0, none⟩ = some (.int .i64 a1_0) := blk_cell HK2.out 0
   have k1 : w3.cell? ⟨w.heap.size, 1, none⟩ = some (.bool a1_1) := blk_cell HK2.out 1
   go_wp2_with fail
   refine (syllable_any (ad.add (k * 13)) a0.toNat a1_0 a1_1 _ (fun i v hv => ?_)).mono ?_
   ·have h0 : hexAll.getD k 0 = a0.toNat := by have := HX.out; omega
    have := H2.out.row k hk i v (by rw [h0]; exact hv)
    rw [add_add]
    exact this
   ·rintro e w4 ⟨rfl, hb4⟩
    have HB3 := am (below_step HB2.out hb4)
    rw [E1.out]
    clear hb4
    go_wp2
    go_ret
    exact ⟨rfl, HB3.out⟩
  | false =>
   rw [if_neg (by decide)] at e1
   subst e1
   go_enter Tryz.func76, Tryz.ntmps76
   go_wp2_with fail
   refine (hexachords_tab _ HT.out).mono ?_
   rintro e w1 ⟨g, ad, c, rfl, hTab, hb⟩
   have HB := am (below_step HB0.out hb)
   have HK := am (blk_below HN.out hb)
   have H := am hTab
   clear hb hTab
   go_wp2_with fail
   refine (hexAt_some H.out a0 k hk HX.out).mono ?_
   rintro e w2 ⟨rfl, rfl⟩
   have k0 : w1.cell? ⟨w.heap.size, 0, none⟩ = some (.int .i64 a1_0) := blk_cell HK.out 0
   have k1 : w1.cell? ⟨w.heap.size, 1, none⟩ = some (.bool a1_1) := blk_cell HK.out 1
   go_wp2_with fail
   refine (impl_Tone_valid.calls a1_0 a1_1 false _ HV.out).mono ?_
   rintro e w3 ⟨rfl, hb3⟩
   have HB2 := am (below_step HB.out hb3)
   clear hb3 k0 k1
   go_wp2
   go_ret
   exact ⟨rfl, HB2.out⟩
 ·rw [if_neg (by rw [hx]; decide)] at e1
  subst e1
  have HX := am hno
  clear hx hno
  go_enter Tryz.func76, Tryz.ntmps76
  go_wp2_with fail
  refine (hexachords_tab _ HT.out).mono ?_
  rintro e w1 ⟨g, ad, c, rfl, hTab, hb⟩
  have HB := am (below_step HB0.out hb)
  have H := am hTab
  clear hb hTab
  go_wp2_with fail
  refine (hexAt_none H.out a0 HX.out).mono ?_
  rintro e w2 ⟨rfl, rfl⟩
  go_wp2
  go_ret
  exact ⟨rfl, HB.out⟩


/-- A state of type 136 at block g of W; what its slices lead to came in by w0. -/
def IsS136 (w0 W : World) (g : Nat) (f0 : List (S92)) : Prop := ∃ A0 c0, W.heap[g]? = some (.cells #[.slice A0 f0.length c0] 136 (0, 0)) ∧ w0.heap.size ≤ g ∧ Kd.C k92 w0 A0 f0.length f0
theorem IsS136.grown {w0 W : World} {g : Nat} {f0 : List (S92)} {W1 : World} {row : Option Nat} (h : IsS136 w0 W g f0) (hw : W.grownBy W1 row) (hne : some g ≠ row) : IsS136 w0 W1 g f0 := by
 obtain ⟨A0, c0, hb, hg, hr0⟩ := h
 exact ⟨A0, c0, blk_grown hb hw hne, hg, hr0⟩
theorem IsS136.fresh {w0 W : World} {g : Nat} {f0 : List (S92)} (h : IsS136 w0 W g f0) : ∀ k, W.heap.size ≤ k → k ≠ g := by
 obtain ⟨A0, c0, hb, hg, hr0⟩ := h
 exact Kd.freshB hb
theorem IsS136.kept {w0 W : World} {g : Nat} {f0 : List (S92)} {W1 : World} {S : Nat → Prop} (h : IsS136 w0 W g f0) (hk : Kept W W1 S) (hne : ¬ S g) : IsS136 w0 W1 g f0 := by
 obtain ⟨A0, c0, hb, hg, hr0⟩ := h
 exact ⟨A0, c0, blk_kept hb hk hne, hg, hr0⟩
theorem IsS136.below {w0 W : World} {g : Nat} {f0 : List (S92)} {W1 : World} (h : IsS136 w0 W g f0) (hw : Below W.heap.size W W1) : IsS136 w0 W1 g f0 := h.grown (grown_of_below hw none) (by simp)
theorem IsS136.alloc {w0 W : World} {g : Nat} {f0 : List (S92)} (h : IsS136 w0 W g f0) (o : Obj) : IsS136 w0 (W.alloc o) g f0 := h.below (below_alloc (Below.refl _ _) o)
theorem IsS136.drewN {w0 W : World} {g : Nat} {f0 : List (S92)} (h : IsS136 w0 W g f0) (m : Nat) : IsS136 w0 (W.drewN m) g f0 := h
theorem IsS136.drew {w0 W : World} {g : Nat} {f0 : List (S92)} (h : IsS136 w0 W g f0) : IsS136 w0 W.drew g f0 := h
theorem IsS136.apart {w0 W : World} {g : Nat} {f0 : List (S92)} {α : Type} {d : Kd α} {e : Nat} {base : Nat} {ok : Nat → Prop} {v : Value} {xs : List α} (h : IsS136 w0 W g f0) (ho : d.R e W base ok v xs) (ht : ∀ q, q ∈ e :: d.E → q ≠ 136) : d.R e W base (fun k => ok k ∧ k ≠ g) v xs := by
 obtain ⟨A0, c0, hb, hg, hr0⟩ := h
 exact Kd.R_types ho hb ht
theorem IsS136.own_ne {w0 W : World} {g : Nat} {f0 : List (S92)} {α : Type} {d : Kd α} {e : Nat} {base : Nat} {ok : Nat → Prop} {v : Value} {xs : List α} (h : IsS136 w0 W g f0) (ho : d.R e W base ok v xs) (ht : e ≠ 136) : some g ≠ v.ownBlock := by
 obtain ⟨A0, c0, hb, hg, hr0⟩ := h
 exact Kd.R_ne ho hb ht
theorem IsS136.lt {w0 W : World} {g : Nat} {f0 : List (S92)} (h : IsS136 w0 W g f0) : g < W.heap.size := by
 obtain ⟨A0, c0, hb, hg, hr0⟩ := h
 exact blk_lt hb
theorem IsS136.ge {w0 W : World} {g : Nat} {f0 : List (S92)} (h : IsS136 w0 W g f0) : w0.heap.size ≤ g := by
 obtain ⟨A0, c0, hb, hg, hr0⟩ := h
 exact hg
theorem IsS136.far {w0 W : World} {g : Nat} {f0 : List (S92)} {p : Addr} (h : IsS136 w0 W g f0) (hne : g ≠ p.block) (u : Value) : IsS136 w0 (W.setCell p u) g f0 := by
 obtain ⟨A0, c0, hb, hg, hr0⟩ := h
 exact ⟨A0, c0, blk_far hb hne u, hg, hr0⟩
/-- A state of type 95 at block g of W; what its slices lead to came in by w0. -/
def IsS95 (w0 W : World) (g : Nat) (f0 : List (List Int)) (f1 : List (List Int)) : Prop := ∃ A0 c0, ∃ A1 c1, W.heap[g]? = some (.cells #[.slice A0 f0.length c0, .slice A1 f1.length c1] 95 (0, 0)) ∧ w0.heap.size ≤ g ∧ Kd.C (Kd.slice 3 (Kd.int .i64)) w0 A0 f0.length f0 ∧ Kd.C (Kd.slice 3 (Kd.int .i64)) w0 A1 f1.length f1
theorem IsS95.grown {w0 W : World} {g : Nat} {f0 : List (List Int)} {f1 : List (List Int)} {W1 : World} {row : Option Nat} (h : IsS95 w0 W g f0 f1) (hw : W.grownBy W1 row) (hne : some g ≠ row) : IsS95 w0 W1 g f0 f1 := by
 obtain ⟨A0, c0, A1, c1, hb, hg, hr0, hr1⟩ := h
 exact ⟨A0, c0, A1, c1, blk_grown hb hw hne, hg, hr0, hr1⟩
theorem IsS95.fresh {w0 W : World} {g : Nat} {f0 : List (List Int)} {f1 : List (List Int)} (h : IsS95 w0 W g f0 f1) : ∀ k, W.heap.size ≤ k → k ≠ g := by
 obtain ⟨A0, c0, A1, c1, hb, hg, hr0, hr1⟩ := h
 exact Kd.freshB hb
theorem IsS95.kept {w0 W : World} {g : Nat} {f0 : List (List Int)} {f1 : List (List Int)} {W1 : World} {S : Nat → Prop} (h : IsS95 w0 W g f0 f1) (hk : Kept W W1 S) (hne : ¬ S g) : IsS95 w0 W1 g f0 f1 := by
 obtain ⟨A0, c0, A1, c1, hb, hg, hr0, hr1⟩ := h
 exact ⟨A0, c0, A1, c1, blk_kept hb hk hne, hg, hr0, hr1⟩
theorem IsS95.below {w0 W : World} {g : Nat} {f0 : List (List Int)} {f1 : List (List Int)} {W1 : World} (h : IsS95 w0 W g f0 f1) (hw : Below W.heap.size W W1) : IsS95 w0 W1 g f0 f1 := h.grown (grown_of_below hw none) (by simp)
theorem IsS95.alloc {w0 W : World} {g : Nat} {f0 : List (List Int)} {f1 : List (List Int)} (h : IsS95 w0 W g f0 f1) (o : Obj) : IsS95 w0 (W.alloc o) g f0 f1 := h.below (below_alloc (Below.refl _ _) o)
theorem IsS95.drewN {w0 W : World} {g : Nat} {f0 : List (List Int)} {f1 : List (List Int)} (h : IsS95 w0 W g f0 f1) (m : Nat) : IsS95 w0 (W.drewN m) g f0 f1 := h
theorem IsS95.drew {w0 W : World} {g : Nat} {f0 : List (List Int)} {f1 : List (List Int)} (h : IsS95 w0 W g f0 f1) : IsS95 w0 W.drew g f0 f1 := h
theorem IsS95.apart {w0 W : World} {g : Nat} {f0 : List (List Int)} {f1 : List (List Int)} {α : Type} {d : Kd α} {e : Nat} {base : Nat} {ok : Nat → Prop} {v : Value} {xs : List α} (h : IsS95 w0 W g f0 f1) (ho : d.R e W base ok v xs) (ht : ∀ q, q ∈ e :: d.E → q ≠ 95) : d.R e W base (fun k => ok k ∧ k ≠ g) v xs := by
 obtain ⟨A0, c0, A1, c1, hb, hg, hr0, hr1⟩ := h
 exact Kd.R_types ho hb ht
theorem IsS95.own_ne {w0 W : World} {g : Nat} {f0 : List (List Int)} {f1 : List (List Int)} {α : Type} {d : Kd α} {e : Nat} {base : Nat} {ok : Nat → Prop} {v : Value} {xs : List α} (h : IsS95 w0 W g f0 f1) (ho : d.R e W base ok v xs) (ht : e ≠ 95) : some g ≠ v.ownBlock := by
 obtain ⟨A0, c0, A1, c1, hb, hg, hr0, hr1⟩ := h
 exact Kd.R_ne ho hb ht
theorem IsS95.lt {w0 W : World} {g : Nat} {f0 : List (List Int)} {f1 : List (List Int)} (h : IsS95 w0 W g f0 f1) : g < W.heap.size := by
 obtain ⟨A0, c0, A1, c1, hb, hg, hr0, hr1⟩ := h
 exact blk_lt hb
theorem IsS95.ge {w0 W : World} {g : Nat} {f0 : List (List Int)} {f1 : List (List Int)} (h : IsS95 w0 W g f0 f1) : w0.heap.size ≤ g := by
 obtain ⟨A0, c0, A1, c1, hb, hg, hr0, hr1⟩ := h
 exact hg
theorem IsS95.far {w0 W : World} {g : Nat} {f0 : List (List Int)} {f1 : List (List Int)} {p : Addr} (h : IsS95 w0 W g f0 f1) (hne : g ≠ p.block) (u : Value) : IsS95 w0 (W.setCell p u) g f0 f1 := by
 obtain ⟨A0, c0, A1, c1, hb, hg, hr0, hr1⟩ := h
 exact ⟨A0, c0, A1, c1, blk_far hb hne u, hg, hr0, hr1⟩
/-! ### impl_SingOk: function 75 -/
mutual
def impl_SingOk.j0 : Nat → List (S74) → List Int → Bool → Option (Bool)
 | 0, _, _, _ => none
 | k + 1, x0, x1, x16 => if x16 = true then (some false) else (impl_SingOk.l0 k x1 x0 (x0.length : Int) 0)
def impl_SingOk.l0 : Nat → List Int → List (S74) → Int → Int → Option (Bool)
 | 0, _, _, _, _ => none
 | k + 1, x1, x17, x18, x19 => if x19 < x18 then (if 0 ≤ x19 then (if x19 < (x17.length : Int) then (if x19 < (x1.length : Int) then ((impl_HexSyllable.f (rd x1 x19) ((rd_T74 x17 x19).f0) ((rd_T74 x17 x19).f1)).bind fun t125 => (if t125 < 0 then (some false) else (impl_SingOk.l0 k x1 x17 x18 (wrap64 (x19 + 1))))) else (none)) else (none)) else (none)) else (some true)
end
def impl_SingOk.f (k : Nat) (l0 : List (S74)) (l1 : List Int) : Option (Bool) := (impl_MelodyValid.f k l0).bind fun t121 => (if t121 = true then (impl_SingOk.j0 k l0 l1 ((l0.length : Int) != (l1.length : Int))) else (impl_SingOk.j0 k l0 l1 true))
theorem impl_SingOk.mono_l : ∀ k, (∀ y0 y1 y2, LeO (impl_SingOk.j0 k y0 y1 y2) (impl_SingOk.j0 (k + 1) y0 y1 y2)) ∧ (∀ y0 y1 y2 y3, LeO (impl_SingOk.l0 k y0 y1 y2 y3) (impl_SingOk.l0 (k + 1) y0 y1 y2 y3))
 | 0 => ⟨fun _ _ _ r h => by simp [impl_SingOk.j0] at h, fun _ _ _ _ r h => by simp [impl_SingOk.l0] at h⟩
 | k + 1 => by
  obtain ⟨ih0, ih1⟩ := impl_SingOk.mono_l k
  refine ⟨?_, ?_⟩
  ·intro y0 y1 y2
   unfold impl_SingOk.j0
   repeat' first
   | (with_reducible exact ih0 _ _ _)
   | (with_reducible exact ih1 _ _ _ _)
   | (with_reducible exact impl_MelodyValid.mono _ _)
   | (with_reducible exact LeO.refl _)
   | (with_reducible exact LeO.none _)
   | (with_reducible refine LeO.ite ?_ ?_)
   | (with_reducible refine LeO.bind ?_ (fun _ => ?_))
   | exact ih0 _ _ _
   | exact ih1 _ _ _ _
   | exact impl_MelodyValid.mono _ _
   | exact LeO.none _
   | refine LeO.ite ?_ ?_
   | refine LeO.bind ?_ (fun _ => ?_)
  ·intro y0 y1 y2 y3
   unfold impl_SingOk.l0
   repeat' first
   | (with_reducible exact ih0 _ _ _)
   | (with_reducible exact ih1 _ _ _ _)
   | (with_reducible exact impl_MelodyValid.mono _ _)
   | (with_reducible exact LeO.refl _)
   | (with_reducible exact LeO.none _)
   | (with_reducible refine LeO.ite ?_ ?_)
   | (with_reducible refine LeO.bind ?_ (fun _ => ?_))
   | exact ih0 _ _ _
   | exact ih1 _ _ _ _
   | exact impl_MelodyValid.mono _ _
   | exact LeO.none _
   | refine LeO.ite ?_ ?_
   | refine LeO.bind ?_ (fun _ => ?_)
theorem impl_SingOk.mono : ∀ a0 a1 k, LeO (impl_SingOk.f k a0 a1) (impl_SingOk.f (k + 1) a0 a1) := by
 intro a0 a1 k
 obtain ⟨ih0, ih1⟩ := impl_SingOk.mono_l k
 unfold impl_SingOk.f
 repeat' first
   | (with_reducible exact ih0 _ _ _)
   | (with_reducible exact ih1 _ _ _ _)
   | (with_reducible exact impl_MelodyValid.mono _ _)
   | (with_reducible exact LeO.refl _)
   | (with_reducible exact LeO.none _)
   | (with_reducible refine LeO.ite ?_ ?_)
   | (with_reducible refine LeO.bind ?_ (fun _ => ?_))
   | exact ih0 _ _ _
   | exact ih1 _ _ _ _
   | exact impl_MelodyValid.mono _ _
   | exact LeO.none _
   | refine LeO.ite ?_ ?_
   | refine LeO.bind ?_ (fun _ => ?_)
theorem impl_SingOk.calls (k : Nat) (A0 : Option Addr) (c0 : Nat) (l0 : List (S74)) (A1 : Option Addr) (c1 : Nat) (l1 : List Int) (r : Bool) (w : World) (hr0 : Kd.C k74 w A0 l0.length l0) (hc0 : l0.length ≤ c0) (hr1 : Kd.C (Kd.int .i64) w A1 l1.length l1) (hc1 : l1.length ≤ c1) (hTL : TabL w) (h : impl_SingOk.f k l0 l1 = some r) :
  Calls Tryz.prog 75 #[.slice A0 l0.length c0, .slice A1 l1.length c1] w fun e w' => e = .returned (.bool r) ∧ Below w.heap.size w w' := by
 have hu74 := Tryz.underlying74
 have HTL := am hTL
 clear hTL
 have HR0 := am hr0
 have HC0 := am hc0
 clear hr0 hc0
 have HR1 := am hr1
 have HC1 := am hc1
 clear hr1 hc1
 have HB := am (Below.refl w.heap.size w)
 have H : ((impl_MelodyValid.f k l0).bind fun t121 => (if t121 = true then (impl_SingOk.j0 k l0 l1 ((l0.length : Int) != (l1.length : Int))) else (impl_SingOk.j0 k l0 l1 true))) = some r := h
 clear h
 have HC3 := am H
 clear H
 go_enter Tryz.func75, Tryz.ntmps75
 go_upto_region 1 with (fail)
 go_cut [16] (fun v16 wc => ∃ (kq : Nat) (x16_2 : Bool), v16 = .bool x16_2 ∧ Aside0 (impl_SingOk.j0 kq l0 l1 x16_2 = some r) ∧ Aside0 (kq ≤ k) ∧ Aside0 (Below w.heap.size w wc))
 case first =>
  have H := HC3.out
  clear HC3
  replace H := Option.bind_eq_some_iff.mp H
  obtain ⟨t121, A40, H⟩ := H
  replace H : (if t121 = true then (impl_SingOk.j0 k l0 l1 ((l0.length : Int) != (l1.length : Int))) else (impl_SingOk.j0 k l0 l1 true)) = some r := H
  have A4 := am A40
  clear A40
  by_cases c5 : t121 = true
  ·subst c5
   have H1 : (impl_SingOk.j0 k l0 l1 ((l0.length : Int) != (l1.length : Int))) = some r := by rw [if_pos rfl] at H; exact H
   clear H
   have H := H1
   clear H1
   have H' := am H
   clear H
   go_wp2_with ((with_reducible refine gate_callee (f := 53) rfl ?_); refine goesL_ (some 8) rfl rfl Tryz.func53 (by kernel_rfl) rfl #[.slice A0 l0.length c0] rfl (by (try simp only [mA, mC, mN]); first | done | rfl) ?_; (with_reducible refine (impl_MelodyValid.calls k _ _ l0 true _ ?side1 ?side2 A4.out).mono ?_); (case side1 => repeat (first | exact (Kd.C_below HR0.out HB.out) | (with_reducible refine Kd.C_alloc ?_ _) | (with_reducible refine Kd.C_drewN ?_ _) | (with_reducible refine Kd.C_drew ?_))); (case side2 => exact HC0.out); rintro e w6 ⟨rfl, hb⟩; refine ⟨_, rfl, ?_⟩; have n0_ := am (below_step (bu HB.out) hb); clear HB; have HB := n0_; clear n0_; (try clear hb); (try clear hb2); (try clear hk); (try clear hi))
   go_meet
   case rel => exact ⟨_, (((l0.length : Int) != (l1.length : Int))), (by first | rfl | simp | simp [*]), H', ⟨by first | omega | exact Nat.le_refl _⟩, ⟨bu HB.out⟩⟩
  replace c5 := Bool.eq_false_iff.mpr c5
  subst c5
  have H1 : (impl_SingOk.j0 k l0 l1 true) = some r := by rw [if_neg (show ¬ (false = true) by decide)] at H; exact H
  clear H
  have H := H1
  clear H1
  have H' := am H
  clear H
  go_wp2_with ((with_reducible refine gate_callee (f := 53) rfl ?_); refine goesL_ (some 8) rfl rfl Tryz.func53 (by kernel_rfl) rfl #[.slice A0 l0.length c0] rfl (by (try simp only [mA, mC, mN]); first | done | rfl) ?_; (with_reducible refine (impl_MelodyValid.calls k _ _ l0 false _ ?side1 ?side2 A4.out).mono ?_); (case side1 => repeat (first | exact (Kd.C_below HR0.out HB.out) | (with_reducible refine Kd.C_alloc ?_ _) | (with_reducible refine Kd.C_drewN ?_ _) | (with_reducible refine Kd.C_drew ?_))); (case side2 => exact HC0.out); rintro e w7 ⟨rfl, hb⟩; refine ⟨_, rfl, ?_⟩; have n0_ := am (below_step (bu HB.out) hb); clear HB; have HB := n0_; clear n0_; (try clear hb); (try clear hb2); (try clear hk); (try clear hi))
  go_meet
  case rel => exact ⟨_, (true), (by first | rfl | simp | simp [*]), H', ⟨by first | omega | exact Nat.le_refl _⟩, ⟨bu HB.out⟩⟩
 case rest =>
  clear HC3
  (try clear c1); (try clear p2); (try clear c5); (try clear c7)
  obtain ⟨kq, x16_2, rfl, HA, HJ2, HB⟩ := hcut
  cases kq with
  | zero => exact absurd HA.out (by simp [impl_SingOk.j0])
  | succ kj2 =>
   have H := HA.out
   clear HA
   simp only [impl_SingOk.j0] at H
   by_cases c8 : x16_2 = true
   ·subst c8
    have H1 : (some false) = some r := by rw [if_pos rfl] at H; exact H
    clear H
    have H := H1
    clear H1
    obtain rfl := Option.some.inj H
    go_wp2
    go_ret
    exact ⟨by first | rfl | (simp [*] <;> rfl), bu HB.out⟩
   replace c8 := Bool.eq_false_iff.mpr c8
   subst c8
   have H1 : (impl_SingOk.l0 kj2 l1 l0 (l0.length : Int) 0) = some r := by rw [if_neg (show ¬ (false = true) by decide)] at H; exact H
   clear H
   have H := H1
   clear H1
   have H' := am H
   clear H
   go_wp2
   go_loopg [19] kj2 (fun kq v19 w' => ∃ (x19_2 : Int), v19 = .int .i64 x19_2 ∧ Aside0 (impl_SingOk.l0 kq l1 l0 (l0.length : Int) x19_2 = some r) ∧ Aside0 (kq ≤ kj2) ∧ Aside0 (Below w.heap.size w w'))
   case atStart => exact ⟨(0), (by first | rfl | simp | simp [*]), H', ⟨Nat.le_refl _⟩, ⟨bu HB.out⟩⟩
   case round =>
    clear H'
    (try clear c1); (try clear p2); (try clear c5); (try clear c7); (try clear c8); (try clear p2)
    obtain ⟨x19_2, rfl, HA, HK2, HB⟩ := hrel
    cases gk with
    | zero => exact absurd HA.out (by simp [impl_SingOk.l0])
    | succ k2 =>
     have H := HA.out
     clear HA
     simp only [impl_SingOk.l0] at H
     by_cases c9 : x19_2 < (l0.length : Int)
     ·rw [if_pos c9] at H
      have c9b0 : decide (x19_2 < (l0.length : Int)) = true := decide_eq_true c9
      clear c9
      by_cases c10 : 0 ≤ x19_2
      case neg => rw [if_neg c10] at H; exact absurd H (by simp)
      rw [if_pos c10] at H
      have c10b0 : decide (0 ≤ x19_2) = true := decide_eq_true c10
      clear c10
      by_cases c11 : x19_2 < (l0.length : Int)
      case neg => rw [if_neg c11] at H; exact absurd H (by simp)
      rw [if_pos c11] at H
      have c11b0 : decide (x19_2 < (l0.length : Int)) = true := decide_eq_true c11
      clear c11
      by_cases c12 : x19_2 < (l1.length : Int)
      case neg => rw [if_neg c12] at H; exact absurd H (by simp)
      rw [if_pos c12] at H
      have c12b0 : decide (x19_2 < (l1.length : Int)) = true := decide_eq_true c12
      clear c12
      replace H := Option.bind_eq_some_iff.mp H
      obtain ⟨t125, A130, H⟩ := H
      replace H : (if t125 < 0 then (some false) else (impl_SingOk.l0 k2 l1 l0 (l0.length : Int) (wrap64 (x19_2 + 1)))) = some r := H
      have A13 := am A130
      clear A130
      by_cases c14 : t125 < 0
      ·rw [if_pos c14] at H
       have c14b0 : decide (t125 < 0) = true := decide_eq_true c14
       clear c14
       obtain rfl := Option.some.inj H
       have p122 : 0 ≤ (x19_2 : Int) := od
       have q122 : x19_2 < (l0.length : Int) := od
       obtain ⟨ad122, e122, hx122_0, hx122_1⟩ := at_T74 HR0.out x19_2 p122 q122
       cases e122
       replace hx122_0 := (HB.out.cell (World.block_lt_of_cell? w _ hx122_0)).trans hx122_0
       replace hx122_1 := (HB.out.cell (World.block_lt_of_cell? w _ hx122_1)).trans hx122_1
       replace p122 := eq_true p122
       replace q122 := eq_true q122
       try go_wp2_with ((with_reducible refine gate_dst (N := 6) rfl ?_); (try (refine gate_guard (by rfl) ?_; dsimp only)); refine box_event ?hg (N := 6) ?hd (cs := #[.int .i64 0, .bool false]) (t := 74) ?hr ?_; (case hd => rfl); (case hg => rfl); (case hr => first | (go_simp; done) | (go_simp; rfl)); intro gb123 hg w15 hbox hb; have n0_ := am (below_step (bu HB.out) hb); have n1_ := am (hbox); have n2_ := am ((by rw [hg]; exact (below_size (bu HB.out)) : w.heap.size ≤ gb123)); have n3_ := am ((by rw [hg]; exact (below_size (bu HB.out)) : w.heap.size ≤ gb123)); clear HB; have HB := n0_; have BK123 := n1_; have GW123 := n2_; have GE123 := n3_; clear n0_ n1_ n2_ n3_; clear hb hbox hg; have hcz16_0 : w15.cell? ⟨gb123, 0, none⟩ = some (.int .i64 0) := (blk_cell BK123.out 0).trans rfl; have hcz16_1 : w15.cell? ⟨gb123, 1, none⟩ = some (.bool false) := (blk_cell BK123.out 1).trans rfl; have hfz16_0 := blk_frozen BK123.out 0; have hfz16_1 := blk_frozen BK123.out 1)
       have n0_ : Aside0 (((w15.setCell ⟨gb123, 0, none⟩ (.int .i64 ((rd_T74 l0 x19_2).f0))).setCell ⟨gb123, 1, none⟩ (.bool ((rd_T74 l0 x19_2).f1))).heap[gb123]? = some (.cells #[.int .i64 ((rd_T74 l0 x19_2).f0), .bool ((rd_T74 l0 x19_2).f1)] 74 (0, 0))) := ⟨by (with_reducible repeat (first | refine blk_drewN ?_ _ | refine blk_drew ?_ | refine blk_alloc ?_ _)); refine blk_put (cs := #[.int .i64 ((rd_T74 l0 x19_2).f0), .bool false]) ?_ 1 _ rfl; (with_reducible repeat (first | refine blk_drewN ?_ _ | refine blk_drew ?_ | refine blk_alloc ?_ _)); refine blk_put (cs := #[.int .i64 0, .bool false]) ?_ 0 _ rfl; (with_reducible repeat (first | refine blk_drewN ?_ _ | refine blk_drew ?_ | refine blk_alloc ?_ _)); exact BK123.out⟩
       have n1_ : Aside0 (Below w.heap.size w ((w15.setCell ⟨gb123, 0, none⟩ (.int .i64 ((rd_T74 l0 x19_2).f0))).setCell ⟨gb123, 1, none⟩ (.bool ((rd_T74 l0 x19_2).f1)))) := ⟨bu HB.out⟩
       (try clear BK123)
       (try clear HB)
       generalize ((w15.setCell ⟨gb123, 0, none⟩ (.int .i64 ((rd_T74 l0 x19_2).f0))).setCell ⟨gb123, 1, none⟩ (.bool ((rd_T74 l0 x19_2).f1))) = w17 at n0_ n1_ ⊢
       have BK123 := n0_
       have HB := n1_
       clear n0_ n1_
       have n0_ := am (blk_drew BK123.out)
       have n1_ := am (below_drew1 HB.out)
       clear BK123
       clear HB
       have BK123 := n0_
       have HB := n1_
       clear n0_ n1_
       have p124 : 0 ≤ (x19_2 : Int) := od
       have q124 : x19_2 < (l1.length : Int) := od
       obtain ⟨ad124, e124, hx124_0⟩ := Kd.at_int HR1.out x19_2 p124 q124
       have hw124_0 := hx124_0
       cases e124
       replace hx124_0 := (HB.out.cell (World.block_lt_of_cell? w _ hx124_0)).trans hx124_0
       replace p124 := eq_true p124
       replace q124 := eq_true q124
       refine start_ (n := 7) (S := fun w' => w'.cell? ⟨gb123, 0, none⟩ = some (.int .i64 ((rd_T74 l0 x19_2).f0)) ∧ w'.cell? ⟨gb123, 1, none⟩ = some (.bool ((rd_T74 l0 x19_2).f1)) ∧ w'.cell? (ad124.add (x19_2).toNat) = some (.int .i64 (rd l1 x19_2))) (ds := []) #[F,F,F,F,F,F,F] (by kernel_rfl) rfl rfl ⟨(blk_cell BK123.out 0).trans rfl, (blk_cell BK123.out 1).trans rfl, ((HB.out.cell (World.block_lt_of_cell? w _ hw124_0)).trans hw124_0)⟩ (fun hHeld => ?_)
       generalize w17.drew = w18 at BK123 HB hx124_0 hHeld ⊢
       refine pz 0 (some 24) #[T,F,F,F,F,F,F] (by kernel_rfl) (h := ?_)
       refine pz 1 (some 25) #[T,T,F,F,F,F,F] (by kernel_rfl) (h := ?_)
       refine pz 2 (some 26) #[T,T,T,F,F,F,F] (by kernel_rfl) (h := ?_)
       refine tz hHeld 3 (some 27) #[T,T,T,T,F,F,F] (by kernel_rfl) (h := ?_)
       refine tz hHeld 4 (some 28) #[T,T,T,T,T,F,F] (by kernel_rfl) (h := ?_)
       refine one_ (i := 5) (N := some 29) #[T,T,T,T,T,T,F] rfl rfl (by kernel_rfl) (by decide) (fun K hK => ?_)
       refine goes_ Tryz.func76 (by kernel_rfl) rfl #[.int .i64 (rd l1 x19_2), .agg #[.int .i64 ((rd_T74 l0 x19_2).f0), .bool ((rd_T74 l0 x19_2).f1)]] (by rfl) rfl rfl (by (try simp only [mA, mC, mN]); first | done | rfl) ?_
       with_reducible refine (impl_HexSyllable.calls (rd l1 x19_2) ((rd_T74 l0 x19_2).f0) ((rd_T74 l0 x19_2).f1) t125 _ ?side1 A13.out).mono ?_
       (case side1 => first | exact HTL.out | exact TabAt.below HTL.out (bu HB.out))
       rintro e w19 ⟨rfl, hb⟩
       refine ⟨_, rfl, ?_⟩
       have n0_ := am (blk_below (g := gb123) (o := .cells #[.int .i64 ((rd_T74 l0 x19_2).f0), .bool ((rd_T74 l0 x19_2).f1)] 74 (0, 0)) (gu BK123.out) hb)
       have n1_ := am (below_step (bu HB.out) hb)
       clear BK123
       clear HB
       have BK123 := n0_
       have HB := n1_
       clear n0_ n1_
       (try clear hb)
       (try clear hb2)
       (try clear hk)
       (try clear hi)
       refine hK.out _ _ ⟨(blk_cell BK123.out 0).trans rfl, (blk_cell BK123.out 1).trans rfl, ((HB.out.cell (World.block_lt_of_cell? w _ hw124_0)).trans hw124_0)⟩ (fun hHeld => ?_)
       clear hK K
       refine norm_ (a' := ?_) ?_ ?_
       rotate_left
       ·show Act.put _ (some 29) _ = _
        simp only [Act.put, sA, sZ, sS, i64_w, i32_w]
        rfl
       refine pz 6 (some 30) #[T,T,T,T,T,T,T] (by kernel_rfl) (h := ?_)
       refine done_ (by kernel_rfl) ?_
       try go_wp2
       go_ret
       exact ⟨by first | rfl | (simp [*] <;> rfl), bu HB.out⟩
      rw [if_neg c14] at H
      have c14b0 : decide (t125 < 0) = false := decide_eq_false c14
      clear c14
      have H' := am H
      clear H
      have p122 : 0 ≤ (x19_2 : Int) := od
      have q122 : x19_2 < (l0.length : Int) := od
      obtain ⟨ad122, e122, hx122_0, hx122_1⟩ := at_T74 HR0.out x19_2 p122 q122
      cases e122
      replace hx122_0 := (HB.out.cell (World.block_lt_of_cell? w _ hx122_0)).trans hx122_0
      replace hx122_1 := (HB.out.cell (World.block_lt_of_cell? w _ hx122_1)).trans hx122_1
      replace p122 := eq_true p122
      replace q122 := eq_true q122
      try go_wp2_with ((with_reducible refine gate_dst (N := 6) rfl ?_); (try (refine gate_guard (by rfl) ?_; dsimp only)); refine box_event ?hg (N := 6) ?hd (cs := #[.int .i64 0, .bool false]) (t := 74) ?hr ?_; (case hd => rfl); (case hg => rfl); (case hr => first | (go_simp; done) | (go_simp; rfl)); intro gb123 hg w20 hbox hb; have n0_ := am (below_step (bu HB.out) hb); have n1_ := am (hbox); have n2_ := am ((by rw [hg]; exact (below_size (bu HB.out)) : w.heap.size ≤ gb123)); have n3_ := am ((by rw [hg]; exact (below_size (bu HB.out)) : w.heap.size ≤ gb123)); clear HB; have HB := n0_; have BK123 := n1_; have GW123 := n2_; have GE123 := n3_; clear n0_ n1_ n2_ n3_; clear hb hbox hg; have hcz21_0 : w20.cell? ⟨gb123, 0, none⟩ = some (.int .i64 0) := (blk_cell BK123.out 0).trans rfl; have hcz21_1 : w20.cell? ⟨gb123, 1, none⟩ = some (.bool false) := (blk_cell BK123.out 1).trans rfl; have hfz21_0 := blk_frozen BK123.out 0; have hfz21_1 := blk_frozen BK123.out 1)
      have n0_ : Aside0 (((w20.setCell ⟨gb123, 0, none⟩ (.int .i64 ((rd_T74 l0 x19_2).f0))).setCell ⟨gb123, 1, none⟩ (.bool ((rd_T74 l0 x19_2).f1))).heap[gb123]? = some (.cells #[.int .i64 ((rd_T74 l0 x19_2).f0), .bool ((rd_T74 l0 x19_2).f1)] 74 (0, 0))) := ⟨by (with_reducible repeat (first | refine blk_drewN ?_ _ | refine blk_drew ?_ | refine blk_alloc ?_ _)); refine blk_put (cs := #[.int .i64 ((rd_T74 l0 x19_2).f0), .bool false]) ?_ 1 _ rfl; (with_reducible repeat (first | refine blk_drewN ?_ _ | refine blk_drew ?_ | refine blk_alloc ?_ _)); refine blk_put (cs := #[.int .i64 0, .bool false]) ?_ 0 _ rfl; (with_reducible repeat (first | refine blk_drewN ?_ _ | refine blk_drew ?_ | refine blk_alloc ?_ _)); exact BK123.out⟩
      have n1_ : Aside0 (Below w.heap.size w ((w20.setCell ⟨gb123, 0, none⟩ (.int .i64 ((rd_T74 l0 x19_2).f0))).setCell ⟨gb123, 1, none⟩ (.bool ((rd_T74 l0 x19_2).f1)))) := ⟨bu HB.out⟩
      (try clear BK123)
      (try clear HB)
      generalize ((w20.setCell ⟨gb123, 0, none⟩ (.int .i64 ((rd_T74 l0 x19_2).f0))).setCell ⟨gb123, 1, none⟩ (.bool ((rd_T74 l0 x19_2).f1))) = w22 at n0_ n1_ ⊢
      have BK123 := n0_
      have HB := n1_
      clear n0_ n1_
      have n0_ := am (blk_drew BK123.out)
      have n1_ := am (below_drew1 HB.out)
      clear BK123
      clear HB
      have BK123 := n0_
      have HB := n1_
      clear n0_ n1_
      have p124 : 0 ≤ (x19_2 : Int) := od
      have q124 : x19_2 < (l1.length : Int) := od
      obtain ⟨ad124, e124, hx124_0⟩ := Kd.at_int HR1.out x19_2 p124 q124
      have hw124_0 := hx124_0
      cases e124
      replace hx124_0 := (HB.out.cell (World.block_lt_of_cell? w _ hx124_0)).trans hx124_0
      replace p124 := eq_true p124
      replace q124 := eq_true q124
      refine start_ (n := 7) (S := fun w' => w'.cell? ⟨gb123, 0, none⟩ = some (.int .i64 ((rd_T74 l0 x19_2).f0)) ∧ w'.cell? ⟨gb123, 1, none⟩ = some (.bool ((rd_T74 l0 x19_2).f1)) ∧ w'.cell? (ad124.add (x19_2).toNat) = some (.int .i64 (rd l1 x19_2))) (ds := []) #[F,F,F,F,F,F,F] (by kernel_rfl) rfl rfl ⟨(blk_cell BK123.out 0).trans rfl, (blk_cell BK123.out 1).trans rfl, ((HB.out.cell (World.block_lt_of_cell? w _ hw124_0)).trans hw124_0)⟩ (fun hHeld => ?_)
      generalize w22.drew = w23 at BK123 HB hx124_0 hHeld ⊢
      refine pz 0 (some 24) #[T,F,F,F,F,F,F] (by kernel_rfl) (h := ?_)
      refine pz 1 (some 25) #[T,T,F,F,F,F,F] (by kernel_rfl) (h := ?_)
      refine pz 2 (some 26) #[T,T,T,F,F,F,F] (by kernel_rfl) (h := ?_)
      refine tz hHeld 3 (some 27) #[T,T,T,T,F,F,F] (by kernel_rfl) (h := ?_)
      refine tz hHeld 4 (some 28) #[T,T,T,T,T,F,F] (by kernel_rfl) (h := ?_)
      refine one_ (i := 5) (N := some 29) #[T,T,T,T,T,T,F] rfl rfl (by kernel_rfl) (by decide) (fun K hK => ?_)
      refine goes_ Tryz.func76 (by kernel_rfl) rfl #[.int .i64 (rd l1 x19_2), .agg #[.int .i64 ((rd_T74 l0 x19_2).f0), .bool ((rd_T74 l0 x19_2).f1)]] (by rfl) rfl rfl (by (try simp only [mA, mC, mN]); first | done | rfl) ?_
      with_reducible refine (impl_HexSyllable.calls (rd l1 x19_2) ((rd_T74 l0 x19_2).f0) ((rd_T74 l0 x19_2).f1) t125 _ ?side1 A13.out).mono ?_
      (case side1 => first | exact HTL.out | exact TabAt.below HTL.out (bu HB.out))
      rintro e w24 ⟨rfl, hb⟩
      refine ⟨_, rfl, ?_⟩
      have n0_ := am (blk_below (g := gb123) (o := .cells #[.int .i64 ((rd_T74 l0 x19_2).f0), .bool ((rd_T74 l0 x19_2).f1)] 74 (0, 0)) (gu BK123.out) hb)
      have n1_ := am (below_step (bu HB.out) hb)
      clear BK123
      clear HB
      have BK123 := n0_
      have HB := n1_
      clear n0_ n1_
      (try clear hb)
      (try clear hb2)
      (try clear hk)
      (try clear hi)
      refine hK.out _ _ ⟨(blk_cell BK123.out 0).trans rfl, (blk_cell BK123.out 1).trans rfl, ((HB.out.cell (World.block_lt_of_cell? w _ hw124_0)).trans hw124_0)⟩ (fun hHeld => ?_)
      clear hK K
      refine norm_ (a' := ?_) ?_ ?_
      rotate_left
      ·show Act.put _ (some 29) _ = _
       simp only [Act.put, sA, sZ, sS, i64_w, i32_w]
       rfl
      refine pz 6 (some 30) #[T,T,T,T,T,T,T] (by kernel_rfl) (h := ?_)
      refine done_ (by kernel_rfl) ?_
      try go_wp2
      go_roundg k2
      case measure => have := HJ2.out; have := HK2.out; omega
      case rel => exact ⟨(wrap64 (x19_2 + 1)), (by first | rfl | simp | simp [*]), H', ⟨by have := HJ2.out; have := HK2.out; omega⟩, ⟨bu HB.out⟩⟩
     rw [if_neg c9] at H
     have c9b0 : decide (x19_2 < (l0.length : Int)) = false := decide_eq_false c9
     clear c9
     obtain rfl := Option.some.inj H
     go_wp2
     go_ret
     exact ⟨by first | rfl | (simp [*] <;> rfl), bu HB.out⟩

def nameOf (k : Nat) : ByteArray := if k = 0 then ⟨#[117, 116]⟩ else if k = 1 then ⟨#[114, 101]⟩ else if k = 2 then ⟨#[109, 105]⟩ else if k = 3 then ⟨#[102, 97]⟩ else if k = 4 then ⟨#[115, 111, 108]⟩ else ⟨#[108, 97]⟩
theorem sylGo_bd (s : Nat) (a : Int) (b : Bool) : ∀ n i, n + i ≤ 6 → -1 ≤ sylGo s a b n i ∧ sylGo s a b n i < 6
 | 0, i, _ => by simp [sylGo]
 | n + 1, i, h => by
  rw [sylGo_step]
  split
  ·omega
  ·exact sylGo_bd s a b n (i + 1) (by omega)
theorem sylOf_bd (s : Nat) (a : Int) (b : Bool) : -1 ≤ sylOf s a b ∧ sylOf s a b < 6 := sylGo_bd s a b 6 0 (by omega)
theorem nameOf_size (k : Nat) : (nameOf k).size ≤ 3 := by
 unfold nameOf
 repeat' split
 all_goals decide

/-! ### SingText, by hand (strings.Join by the shelf's contract) -/
theorem sx_ints {w : World} {A : Option Addr} {n : Nat} {xs : List Int} (h : (Kd.int .i64).C w A n xs) (hn : n = xs.length) (i : Nat) (hi : i < xs.length) : ∃ ad, A = some ad ∧ w.cell? (ad.add i) = some (.int .i64 xs[i]) := by
 obtain ⟨ad, e, hc⟩ := Kd.at_int h (i : Int) (by omega) (by omega)
 refine ⟨ad, e, ?_⟩
 rw [Int.toNat_natCast] at hc
 rw [hc]
 simp [rd, List.getD_eq_getElem?_getD, hi]
theorem sx_strs {w : World} {g n : Nat} {xs : List ByteArray} (h : Kd.string.C w (some ⟨g, 0, none⟩) n xs) (hn : n = xs.length) (j : Nat) (x : ByteArray) (hx : xs[j]? = some x) : w.cell? ⟨g, 0 + j, none⟩ = some (.string x) := by
 obtain ⟨hj, rfl⟩ := List.getElem?_eq_some_iff.1 hx
 obtain ⟨ad, e, hc⟩ := Kd.at_string h (j : Int) (by omega) (by omega)
 obtain rfl : (⟨g, 0, none⟩ : Addr) = ad := by injection e
 rw [Int.toNat_natCast] at hc
 rw [Nat.zero_add, ← add_plain, hc]
 simp [rdOf, List.getD_eq_getElem?_getD, hj]
theorem sx_empty {α : Type} (d : Kd α) (e : Nat) {W : World} {g base : Nat} (ok : Nat → Prop) (hok : ok g) (h : W.heap[g]? = some (.cells #[] e (0, 0))) (hb : base ≤ g) : d.R e W base ok (.slice (some ⟨g, 0, none⟩) 0 0) ([] : List α) :=
 ⟨fun k hk => by
  simp [Value.ownBlock] at hk
  subst hk
  exact hok, [], ⟨by simp, .inr ⟨g, 0, #[], rfl, hb, h, Nat.le_refl _, by simp [maxLen], by simp, by simp⟩⟩, Reps.none _ _⟩
theorem rdSg_at (l : List S74) (i : Nat) (h : i < l.length) : rd_T74 l (i : Int) = l[i] := by
 simp [rd_T74, List.getD_eq_getElem?_getD, h]
theorem rdSi_at (l : List Int) (i : Nat) (h : i < l.length) : rd l (i : Int) = l[i] := by
 simp [rd, List.getD_eq_getElem?_getD, h]
def sylV (h : Int) (t : S74) : Int := (impl_HexSyllable.f h t.f0 t.f1).getD (-1)
def singNames (l : List S74) (s : List Int) : List ByteArray := List.zipWith (fun t h => nameOf (sylV h t).toNat) l s
def joinSp (xs : List ByteArray) : ByteArray := ⟨(Lib.join (xs.map (·.data.toList)) [32]).toArray⟩
def impl_SingText.f (n : Nat) (l0 : List S74) (l1 : List Int) : Option ByteArray := (impl_SingOk.f n l0 l1).bind fun ok => some (if ok = true then joinSp (singNames l0 l1) else ⟨#[]⟩)
theorem impl_SingText.mono : ∀ a0 a1 n, LeO (impl_SingText.f n a0 a1) (impl_SingText.f (n + 1) a0 a1) := by
 intro a0 a1 n
 unfold impl_SingText.f
 exact LeO.bind (impl_SingOk.mono _ _ _) (fun _ => LeO.refl _)
theorem sing_l0 : ∀ (k : Nat) (s : List Int) (l : List S74) (i : Nat), i ≤ l.length → l.length ≤ 24 → impl_SingOk.l0 k s l (l.length : Int) (i : Int) = some true → ∀ j (h0 : j < l.length), i ≤ j → ∃ (h1 : j < s.length) (v : Int), impl_HexSyllable.f s[j] l[j].f0 l[j].f1 = some v ∧ 0 ≤ v := by
 intro k
 induction k with
 | zero => intro s l i hi hl h; simp [impl_SingOk.l0] at h
 | succ k ih =>
  intro s l i hi hl h j h0 hij
  simp only [impl_SingOk.l0] at h
  by_cases hlt : i < l.length
  case neg => omega
  rw [if_pos (by omega), if_pos (by omega), if_pos (by omega)] at h
  by_cases hs : i < s.length
  case neg => rw [if_neg (by omega)] at h; exact absurd h (by simp)
  rw [if_pos (by omega), rdSi_at s i hs, rdSg_at l i hlt] at h
  obtain ⟨v, hv, h⟩ := Option.bind_eq_some_iff.mp h
  by_cases hv0 : v < 0
  ·rw [if_pos hv0] at h
   exact absurd h (by simp)
  rw [if_neg hv0, show wrap64 ((i : Int) + 1) = ((i + 1 : Nat) : Int) by unfold wrap64; omega] at h
  by_cases e : j = i
  ·subst e
   exact ⟨hs, v, hv, by omega⟩
  ·exact ih s l (i + 1) (by omega) hl h j h0 (by omega)
theorem sing_facts {k : Nat} {l : List S74} {s : List Int} (h : impl_SingOk.f k l s = some true) : l.length ≤ 24 ∧ s.length = l.length ∧ ∀ j (h0 : j < l.length), ∃ (h1 : j < s.length) (v : Int), impl_HexSyllable.f s[j] l[j].f0 l[j].f1 = some v ∧ 0 ≤ v := by
 unfold impl_SingOk.f at h
 obtain ⟨b, hb, h⟩ := Option.bind_eq_some_iff.mp h
 cases b with
 | false =>
  rw [if_neg (by decide)] at h
  cases k with
  | zero => simp [impl_SingOk.j0] at h
  | succ k => simp only [impl_SingOk.j0, if_true] at h; exact absurd h (by simp)
 | true =>
  rw [if_pos rfl] at h
  have hl : l.length ≤ 24 := by
   unfold impl_MelodyValid.f at hb
   by_cases hl : (l.length : Int) > 24
   ·rw [if_pos hl] at hb
    exact absurd hb (by simp)
   ·omega
  cases k with
  | zero => simp [impl_SingOk.j0] at h
  | succ k =>
   simp only [impl_SingOk.j0] at h
   by_cases hn : (l.length : Int) = (s.length : Int)
   ·rw [if_neg (by simp; omega)] at h
    exact ⟨hl, by omega, fun j h0 => sing_l0 k s l 0 (Nat.zero_le _) hl h j h0 (Nat.zero_le _)⟩
   ·rw [if_pos (by simp; omega)] at h
    exact absurd h (by simp)
theorem syl_six {h : Int} {t : S74} {v : Int} (hv : impl_HexSyllable.f h t.f0 t.f1 = some v) (h0 : 0 ≤ v) : v < 6 := by
 unfold impl_HexSyllable.f at hv
 obtain ⟨b, _, hv⟩ := Option.bind_eq_some_iff.mp hv
 have e := Option.some.inj hv
 have := (sylOf_bd h.toNat t.f0 t.f1).2
 split at e
 ·split at e <;> omega
 ·omega
theorem singNames_snoc {l : List S74} {s : List Int} (hn : s.length = l.length) {i : Nat} (h0 : i < l.length) (h1 : i < s.length) {v : Int} (hv : impl_HexSyllable.f s[i] l[i].f0 l[i].f1 = some v) : (singNames l s).take (i + 1) = (singNames l s).take i ++ [nameOf v.toNat] := by
 have hl : i < (singNames l s).length := by unfold singNames; rw [List.length_zipWith]; omega
 rw [List.take_succ_eq_append_getElem hl]
 congr 1
 simp only [singNames, List.getElem_zipWith, sylV, hv, Option.getD_some]
theorem infoStr : (Tryz.prog.info? 9).map (fun i => (i.zero, i.size, i.bytes)) = some (some (.string ⟨#[]⟩), 1, 16) := by kernel_rfl
theorem tabS_at {w : World} (h : TabS w) (n : Nat) (hn : n < 6) : w.cell? ⟨0, n, none⟩ = some (.string (nameOf n)) := by
 have key : n = 0 ∨ n = 1 ∨ n = 2 ∨ n = 3 ∨ n = 4 ∨ n = 5 := by omega
 rcases key with rfl | rfl | rfl | rfl | rfl | rfl <;> exact h _ _ rfl
theorem singNames_len {l : List S74} {s : List Int} (hn : s.length = l.length) : (singNames l s).length = l.length := by
 unfold singNames
 rw [List.length_zipWith]
 omega
theorem lens_small : ∀ (xs : List (List UInt8)), (∀ x ∈ xs, x.length ≤ 3) → Lib.lens xs ≤ 3 * xs.length
 | [], _ => by simp [Lib.lens]
 | x :: xs, h => by
  have ih := lens_small xs (fun z hz => h z (List.mem_cons_of_mem _ hz))
  have := h x (List.mem_cons_self ..)
  simp only [Lib.lens, List.map_cons, List.sum_cons, List.length_cons] at ih ⊢
  omega
theorem join_len (xs : List (List UInt8)) (h : ∀ x ∈ xs, x.length ≤ 3) : (Lib.join xs [32]).length ≤ 4 * xs.length := by
 cases xs with
 | nil => simp [Lib.join_nil]
 | cons x r =>
  have h1 := h x (List.mem_cons_self ..)
  have h2 := lens_small r (fun z hz => h z (List.mem_cons_of_mem _ hz))
  rw [Lib.join_cons, List.length_append, Lib.joinTail_length, List.length_cons, List.length_cons, List.length_nil]
  omega
theorem names_small (l : List S74) (s : List Int) (hl : l.length ≤ 24) : (Lib.join ((singNames l s).map (·.data.toList)) [32]).length ≤ 140737488355328 := by
 have hm : ∀ b ∈ singNames l s, b.size ≤ 3 := by
  intro b hb
  unfold singNames at hb
  obtain ⟨i, hi, rfl⟩ := List.getElem_of_mem hb
  rw [List.getElem_zipWith]
  exact nameOf_size _
 have h := join_len ((singNames l s).map (·.data.toList)) (by
  intro x hx
  obtain ⟨b, hb, rfl⟩ := List.mem_map.1 hx
  exact hm b hb)
 rw [List.length_map] at h
 have : (singNames l s).length ≤ l.length := by unfold singNames; rw [List.length_zipWith]; omega
 omega
theorem singText_yes (n : Nat) (A0 : Option Addr) (c0 : Nat) (l0 : List S74) (A1 : Option Addr) (c1 : Nat) (l1 : List Int) (w : World) (hr0 : Kd.C k74 w A0 l0.length l0) (hc0 : l0.length ≤ c0) (hr1 : Kd.C (Kd.int .i64) w A1 l1.length l1) (hc1 : l1.length ≤ c1) (hTL : TabL w) (hTS : TabS w) (h : impl_SingOk.f n l0 l1 = some true) :
  Calls Tryz.prog 35 #[.slice A0 l0.length c0, .slice A1 l1.length c1] w fun e w' => e = .returned (.string (joinSp (singNames l0 l1))) ∧ Below w.heap.size w w' := by
 obtain ⟨hl, hn, hf⟩ := sing_facts h
 have hu2 := Tryz.underlying74
 have HR0 := am hr0
 have HC0 := am hc0
 have HR1 := am hr1
 have HC1 := am hc1
 have HTL := am hTL
 have HTS := am hTS
 have H := am h
 have HF := am hf
 have HN := am hn
 clear hr0 hc0 hr1 hc1 hTL hTS h hf hn
 go_enter Tryz.func35, Tryz.ntmps35
 go_wp2_with fail
 refine (impl_SingOk.calls n A0 c0 l0 A1 c1 l1 true _ HR0.out HC0.out HR1.out HC1.out HTL.out H.out).mono ?_
 rintro e w1 ⟨rfl, hb⟩
 have HB1 := am hb
 have HS1 := am hb.size
 clear hb
 go_wp2_with fail
 have HZ1 := am (blk_new w1 (.cells #[] 9))
 have HB2 := am (below_alloc HB1.out (.cells #[] 9))
 clear HB1
 go_loopg [5, 15] l0.length (fun kq v5 v15 w' => ∃ i : Nat, v15 = .int .i64 (i : Int) ∧ Aside0 (i ≤ l0.length ∧ kq = l0.length - i) ∧ Aside0 (Kd.R Kd.string 9 w' w.heap.size (fun _ => True) v5 ((singNames l0 l1).take i)) ∧ Aside0 (Below w.heap.size w w'))
 case atStart => exact ⟨0, rfl, ⟨by omega, by omega⟩, ⟨sx_empty _ _ _ trivial HZ1.out HS1.out⟩, HB2⟩
 case round =>
  obtain ⟨i, rfl, HI, HO, HB⟩ := hrel
  clear HZ1 HB2
  by_cases hlt : i < l0.length
  ·obtain ⟨h1i, v, hv, hv0⟩ := HF.out i hlt
   have HV6 := syl_six hv hv0
   obtain ⟨ad0, e1, hx0, hx1⟩ := at_T74 (Kd.C_below HR0.out HB.out) (i : Int) (by omega) (by omega)
   cases e1
   simp only [Int.toNat_natCast] at hx0 hx1
   rw [rdSg_at l0 i hlt] at hx0 hx1
   obtain ⟨ad1, rfl, hy⟩ := sx_ints (Kd.C_below HR1.out HB.out) rfl i h1i
   have HSN := am (singNames_snoc HN.out hlt h1i hv)
   obtain ⟨vn, rfl⟩ := Int.eq_ofNat_of_zero_le hv0
   have hvn : vn < 6 := by omega
   rw [Int.toNat_natCast] at HSN
   obtain ⟨t, ht⟩ : ∃ t, t = l0[i] := ⟨_, rfl⟩
   obtain ⟨h, hh⟩ : ∃ h, h = l1[i] := ⟨_, rfl⟩
   rw [← ht] at hx0 hx1 hv
   rw [← hh] at hy hv
   have hsy := tabS_at (TabAt.below HTS.out HB.out) vn hvn
   obtain ⟨nm, hnm⟩ : ∃ nm, nm = nameOf vn := ⟨_, rfl⟩
   rw [← hnm] at HSN hsy
   have HV := am hv
   have HY := am hy
   have HSY := am hsy
   have p0 : 0 ≤ (i : Int) := by omega
   have p1 : (i : Int) < (l0.length : Int) := by omega
   have p2 : (i : Int) < (l1.length : Int) := by omega
   have p3 : 0 ≤ (vn : Int) := by omega
   have p4 : (vn : Int) < 6 := by omega
   replace p0 := eq_true p0
   replace p1 := eq_true p1
   replace p2 := eq_true p2
   replace p3 := eq_true p3
   replace p4 := eq_true p4
   clear hv0 HV6 hvn ht hh hnm hv hy hsy h1i
   go_wp2_with fail
   have hx := below_drew1 (below_alloc (Below.refl wr.heap.size wr) (.cells #[.int .i64 t.f0, .bool t.f1] 74))
   have HX := am (below_drew1 (below_alloc HB.out (.cells #[.int .i64 t.f0, .bool t.f1] 74)))
   have HZ := am (blk_drew (blk_new wr (.cells #[.int .i64 t.f0, .bool t.f1] 74)))
   have HO2 := am (Kd.R_drew (Kd.R_alloc HO.out (.cells #[.int .i64 t.f0, .bool t.f1] 74)))
   refine start_ (n := 12) (S := fun w' => w'.cell? (ad1.add i) = some (.int .i64 h) ∧ w'.cell? ⟨wr.heap.size, 0, none⟩ = some (.int .i64 t.f0) ∧ w'.cell? ⟨wr.heap.size, 1, none⟩ = some (.bool t.f1) ∧ w'.cell? ⟨0, vn, none⟩ = some (.string nm)) (ds := [10]) #[F,F,F,F,F,F,F,F,F,F,F,F] (by kernel_rfl) rfl rfl ⟨pw_cell_below hx HY.out, blk_cell HZ.out 0, blk_cell HZ.out 1, pw_cell_below hx HSY.out⟩ (fun hHeld => ?_)
   generalize (wr.alloc (.cells #[.int .i64 t.f0, .bool t.f1] 74)).drew = wd at HX HZ HO2 hHeld hx ⊢
   refine pz 0 (some 20) #[T,F,F,F,F,F,F,F,F,F,F,F] (by kernel_rfl) (h := ?_)
   refine pz 1 (some 21) #[T,T,F,F,F,F,F,F,F,F,F,F] (by kernel_rfl) (h := ?_)
   refine pz 2 (some 22) #[T,T,T,F,F,F,F,F,F,F,F,F] (by kernel_rfl) (h := ?_)
   refine pz 3 (some 23) #[T,T,T,T,F,F,F,F,F,F,F,F] (by kernel_rfl) (h := ?_)
   refine tz hHeld 4 (some 24) #[T,T,T,T,T,F,F,F,F,F,F,F] (by kernel_rfl) (h := ?_)
   refine tz hHeld 5 (some 25) #[T,T,T,T,T,T,F,F,F,F,F,F] (by kernel_rfl) (h := ?_)
   have HTD : Aside0 (TabL wd) := ⟨TabAt.below HTL.out HX.out⟩
   refine one_ (i := 6) (N := some 26) #[T,T,T,T,T,T,T,F,F,F,F,F] rfl rfl (by kernel_rfl) (by decide) (fun K hK => ?_)
   refine goes_ Tryz.func76 (by kernel_rfl) rfl #[.int .i64 h, .agg #[.int .i64 t.f0, .bool t.f1]] (by rfl) rfl rfl (by (try simp only [mA, mC, mN]); first | done | rfl) ?_
   with_reducible refine (impl_HexSyllable.calls h t.f0 t.f1 (vn : Int) _ HTD.out HV.out).mono ?_
   rintro e we ⟨rfl, hb⟩
   refine ⟨_, rfl, ?_⟩
   have HX' := am (below_step HX.out hb)
   have HO' := am (Kd.R_below HO2.out hb)
   have hb' := hb
   clear HX HZ hb HO2
   refine hK.out _ _ ⟨pw_cell_below hb' hHeld.1, pw_cell_below hb' hHeld.2.1, pw_cell_below hb' hHeld.2.2.1, pw_cell_below hb' hHeld.2.2.2⟩ (fun hHeld => ?_)
   clear hK K
   refine norm_ (a' := ?_) ?_ ?_
   rotate_left
   ·show Act.put _ (some 26) _ = _
    simp only [Act.put, sA, sZ, sS, i64_w, i32_w]
    rfl
   clear hb'
   refine pz 7 (some 27) #[T,T,T,T,T,T,T,T,F,F,F,F] (by kernel_rfl) (h := ?_)
   refine tz hHeld 8 (some 28) #[T,T,T,T,T,T,T,T,T,F,F,F] (by kernel_rfl) (h := ?_)
   refine one_ (i := 9) (N := some 29) #[T,T,T,T,T,T,T,T,T,T,F,F] rfl rfl (by kernel_rfl) (by decide) (fun K hK => ?_)
   refine value_ (w1 := ?_) (v := ?_) (by rfl) rfl ?_ ?_
   rotate_left 2
   ·go_simp
    constructor
    ·rfl
    ·rfl
   refine hK.out _ _ ⟨pw_cell_below (below_alloc (Below.refl _ _) _) hHeld.1, pw_cell_below (below_alloc (Below.refl _ _) _) hHeld.2.1, pw_cell_below (below_alloc (Below.refl _ _) _) hHeld.2.2.1, pw_cell_below (below_alloc (Below.refl _ _) _) hHeld.2.2.2⟩ (fun hHeld => ?_)
   clear hK K
   refine norm_ (a' := ?_) ?_ ?_
   rotate_left
   ·show Act.put _ (some 29) _ = _
    simp only [Act.put, sA, sZ, sS, i64_w, i32_w]
    rfl
   refine last_ (i := 10) (N := some 30) #[T,T,T,T,T,T,T,T,T,T,T,F] rfl rfl (by kernel_rfl) (by decide) (fun K hK => ?_)
   refine Kd.R_append_step Kd.string (w0 := w) w.heap.size (by rfl) (.tmp 20) (.tmp 29) 63 9 (.string ⟨#[]⟩) 16 rfl Tryz.underlying63 infoStr rfl (by decide) (by omega) u5 ((singNames l0 l1).take i) nm [.string nm] (fun _ => True) (fun _ => False) rfl rfl ?aP (fun _ hk => hk.elim) ?aF ?aO ?aB ?aS ?aL ?_
   (case aP => exact rfl)
   (case aB => exact HX'.out)
   (case aF => exact (fun _ _ => trivial))
   (case aO => exact HO'.out)
   (case aS => exact (below_size HX'.out))
   (case aL => rw [List.length_take]; omega)
   intro v1 w6 ho hb hg hat
   have HO6 := am ho
   have HB6 := am hb
   clear ho hb hg hat
   refine hK.out _ _ ?_
   clear hK K
   refine norm_ (a' := ?_) ?_ ?_
   rotate_left
   ·show Act.put _ (some 30) _ = _
    simp only [Act.put, sA, sZ, sS, i64_w, i32_w]
    rfl
   refine pz 11 (some 5) #[T,T,T,T,T,T,T,T,T,T,T,T] (by kernel_rfl) (h := ?_)
   refine done_ (by kernel_rfl) ?_
   clear hHeld hx HX' HO'
   go_wp2_with fail
   go_roundg (l0.length - (i + 1))
   case measure => have := HI.out; omega
   case rel => exact ⟨i + 1, by simp, ⟨by omega, rfl⟩, ⟨by rw [HSN.out]; exact HO6.out⟩, HB6⟩
  have ei : i = l0.length := by have := HI.out; omega
  subst ei
  have ho := HO.out
  rw [List.take_of_length_le (by rw [singNames_len HN.out]; exact Nat.le_refl _)] at ho
  by_cases hz : l0.length = 0
  ·obtain ⟨A5, c5, rfl⟩ := Kd.R_slice ho
   have e0 : (singNames l0 l1).length = 0 := by rw [singNames_len HN.out, hz]
   have e1 : singNames l0 l1 = [] := List.eq_nil_of_length_eq_zero e0
   have E1 := am e1
   rw [e0]
   clear ho e1
   go_wp2_with fail
   refine (Tryz.strings_Join_none A5 c5 ⟨#[32]⟩ _).mono ?_
   rintro e w9 ⟨rfl, rfl⟩
   go_wp2_with fail
   go_ret
   exact ⟨by rw [E1.out]; rfl, HB.out⟩
  obtain ⟨g5, c5, rfl, _, hg5, _⟩ := Kd.R_form ho (by rw [singNames_len HN.out]; omega)
  have HG9 := am hg5
  have HC9 := am (Kd.R_reads' ho)
  clear ho hg5
  go_wp2_with fail
  refine (Tryz.strings_Join g5 0 c5 (singNames l0 l1) ⟨#[32]⟩ _ (fun j x hx => sx_strs HC9.out.2.2 rfl j x hx) HG9.out (by rw [singNames_len HN.out]; omega) HC9.out.2.1 (names_small l0 l1 hl)).mono ?_
  rintro e w9 ⟨rfl, hb9⟩
  have HB9 := am (below_step HB.out hb9)
  clear hb9
  go_wp2_with fail
  go_ret
  exact ⟨rfl, HB9.out⟩
theorem impl_SingText.calls (n : Nat) (A0 : Option Addr) (c0 : Nat) (l0 : List S74) (A1 : Option Addr) (c1 : Nat) (l1 : List Int) (r : ByteArray) (w : World) (hr0 : Kd.C k74 w A0 l0.length l0) (hc0 : l0.length ≤ c0) (hr1 : Kd.C (Kd.int .i64) w A1 l1.length l1) (hc1 : l1.length ≤ c1) (hTL : TabL w) (hTS : TabS w) (h : impl_SingText.f n l0 l1 = some r) :
  Calls Tryz.prog 35 #[.slice A0 l0.length c0, .slice A1 l1.length c1] w fun e w' => e = .returned (.string r) ∧ Below w.heap.size w w' := by
 unfold impl_SingText.f at h
 obtain ⟨b, hb, h⟩ := Option.bind_eq_some_iff.mp h
 have h := Option.some.inj h
 cases b with
 | true =>
  rw [if_pos rfl] at h
  rw [← h]
  exact singText_yes n A0 c0 l0 A1 c1 l1 w hr0 hc0 hr1 hc1 hTL hTS hb
 | false =>
  rw [if_neg (by decide)] at h
  rw [← h]
  clear h
  have HR0 := am hr0
  have HC0 := am hc0
  have HR1 := am hr1
  have HC1 := am hc1
  have HTL := am hTL
  have H := am hb
  clear hr0 hc0 hr1 hc1 hTL hTS hb
  go_enter Tryz.func35, Tryz.ntmps35
  go_wp2_with fail
  refine (impl_SingOk.calls n A0 c0 l0 A1 c1 l1 false _ HR0.out HC0.out HR1.out HC1.out HTL.out H.out).mono ?_
  rintro e w1 ⟨rfl, hb⟩
  have HB1 := am hb
  clear hb
  go_wp2_with fail
  go_ret
  exact ⟨rfl, HB1.out⟩


-- NOT PRINTED: function 79 (stringslite_Cut)

-- INNER impl_allCommands
-- INNER impl_commandFor
end Go.Proofs.YtjnkmckklmabcaaGreatDoor.XL
