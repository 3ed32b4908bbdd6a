-- Made by this session's gprint.py out of the translation. Not trusted: Lean checks it.
import Derived.Test.YtkdlfnakbilhjaaGreatDoorXKx0
import Derived.Test.YtkdlfnakbilhjaaGreatDoorXKx2
import Derived.Test.YtkdlfnakbilhjaaGreatDoorXKx4
namespace Go.Proofs.YtkdlfnakbilhjaaGreatDoor.XK
open Go.RowKit Go.Proofs.YtkdlfnakbilhjaaGreatDoorW.PrintWords Go.Proofs.YtkdlfnakbilhjaaGreatDoorW.PrintLast Go.Proofs.YtkdlfnakbilhjaaGreatDoorW.PrintMore
attribute [local go_sem] max2_int min2_int max_two min_two max_three min_three max_four min_four   -- for this text's walks alone
set_option linter.unusedVariables false
set_option linter.unusedSimpArgs false

/-! ### impl_equalNumbers: function 148 -/
def impl_equalNumbers.l0 : Nat → List Int → List Int → Int → Int → Option (Bool)
 | 0, _, _, _, _ => none
 | k + 1, x1, x12, x13, x14 => if x14 < x13 then (if 0 ≤ x14 then (if x14 < (x12.length : Int) then (if x14 < (x1.length : Int) then (if (rd x12 x14) = (rd x1 x14) then (impl_equalNumbers.l0 k x1 x12 x13 (wrap64 (x14 + 1))) else (some false)) else (none)) else (none)) else (none)) else (some true)
def impl_equalNumbers.f (k : Nat) (l0 : List Int) (l1 : List Int) : Option (Bool) := if (l0.length : Int) = (l1.length : Int) then (impl_equalNumbers.l0 k l1 l0 (l0.length : Int) 0) else (some false)
theorem impl_equalNumbers.mono_l : ∀ k, (∀ y0 y1 y2 y3, LeO (impl_equalNumbers.l0 k y0 y1 y2 y3) (impl_equalNumbers.l0 (k + 1) y0 y1 y2 y3))
 | 0 => fun _ _ _ _ r h => by simp [impl_equalNumbers.l0] at h
 | k + 1 => by
  have ih0 := impl_equalNumbers.mono_l k
  ·intro y0 y1 y2 y3
   unfold impl_equalNumbers.l0
   repeat' first
   | (with_reducible exact ih0 _ _ _ _)
   | (with_reducible exact LeO.refl _)
   | (with_reducible exact LeO.none _)
   | (with_reducible refine LeO.ite ?_ ?_)
   | (with_reducible refine LeO.bind ?_ (fun _ => ?_))
   | exact ih0 _ _ _ _
   | exact LeO.none _
   | refine LeO.ite ?_ ?_
   | refine LeO.bind ?_ (fun _ => ?_)
theorem impl_equalNumbers.mono : ∀ a0 a1 k, LeO (impl_equalNumbers.f k a0 a1) (impl_equalNumbers.f (k + 1) a0 a1) := by
 intro a0 a1 k
 have ih0 := impl_equalNumbers.mono_l k
 unfold impl_equalNumbers.f
 repeat' first
   | (with_reducible exact ih0 _ _ _ _)
   | (with_reducible exact LeO.refl _)
   | (with_reducible exact LeO.none _)
   | (with_reducible refine LeO.ite ?_ ?_)
   | (with_reducible refine LeO.bind ?_ (fun _ => ?_))
   | exact ih0 _ _ _ _
   | exact LeO.none _
   | refine LeO.ite ?_ ?_
   | refine LeO.bind ?_ (fun _ => ?_)
set_option maxHeartbeats 8000000 in
set_option maxRecDepth 100000 in
theorem impl_equalNumbers.calls (k : Nat) (A0 : Option Addr) (c0 : Nat) (l0 : List Int) (A1 : Option Addr) (c1 : Nat) (l1 : List Int) (r : Bool) (w : World) (hr0 : Kd.C (Kd.int .i64) w A0 l0.length l0) (hc0 : l0.length ≤ c0) (hr1 : Kd.C (Kd.int .i64) w A1 l1.length l1) (hc1 : l1.length ≤ c1) (h : impl_equalNumbers.f k l0 l1 = some r) :
  Calls Tryz.prog 148 #[.slice A0 l0.length c0, .slice A1 l1.length c1] w fun e w' => e = .returned (.bool r) ∧ Drawn0 w w' := by
 have HR0 := am hr0
 have HC0 := am hc0
 clear hr0 hc0
 have HR1 := am hr1
 have HC1 := am hc1
 clear hr1 hc1
 have H : (if (l0.length : Int) = (l1.length : Int) then (impl_equalNumbers.l0 k l1 l0 (l0.length : Int) 0) else (some false)) = some r := h
 clear h
 by_cases c3 : (l0.length : Int) = (l1.length : Int)
 ·rw [if_pos c3] at H
  have c3b0 : ((l0.length : Int) == (l1.length : Int)) = true := beq_iff_eq.mpr c3
  have c3b1 : ((l0.length : Int) != (l1.length : Int)) = false := bne_eq_false_iff_eq.mpr c3
  have c3b2 : (l0.length == l1.length) = true := by first | simpa using c3 | (simp at c3 ⊢; omega)
  clear c3
  have H' := am H
  clear H
  go_enter Tryz.func148, Tryz.ntmps148
  go_wp2
  go_loopg [14] k (fun kq v14 w' => ∃ (x14_1 : Int), v14 = .int .i64 x14_1 ∧ Aside0 (impl_equalNumbers.l0 kq l1 l0 (l0.length : Int) x14_1 = some r) ∧ Aside0 (kq ≤ k) ∧ Drawn0 w w')
  case atStart => exact ⟨(0), (by first | rfl | (simp; done) | (simp [*]; done)), H', ⟨Nat.le_refl _⟩, by repeat (first | exact Drawn0.refl _ | apply Drawn0.step)⟩
  case round =>
   clear H'
   try clear c1
   try clear p2
   try clear c3
   try clear c3b0
   try clear c3b1
   try clear c3b2
   obtain ⟨x14_1, rfl, HA, HK1, ⟨m1, rfl⟩⟩ := hrel
   cases gk with
   | zero => exact absurd HA.out (by simp [impl_equalNumbers.l0])
   | succ k1 =>
    have H := HA.out
    clear HA
    simp only [impl_equalNumbers.l0] at H
    by_cases c4 : x14_1 < (l0.length : Int)
    ·rw [if_pos c4] at H
     have c4b0 : decide (x14_1 < (l0.length : Int)) = true := decide_eq_true c4
     clear c4
     by_cases c5 : 0 ≤ x14_1
     ·rw [if_pos c5] at H
      have c5b0 : decide (0 ≤ x14_1) = true := decide_eq_true c5
      clear c5
      by_cases c6 : x14_1 < (l0.length : Int)
      ·rw [if_pos c6] at H
       have c6b0 : decide (x14_1 < (l0.length : Int)) = true := decide_eq_true c6
       clear c6
       by_cases c7 : x14_1 < (l1.length : Int)
       ·rw [if_pos c7] at H
        have c7b0 : decide (x14_1 < (l1.length : Int)) = true := decide_eq_true c7
        clear c7
        by_cases c8 : (rd l0 x14_1) = (rd l1 x14_1)
        ·rw [if_pos c8] at H
         have c8b0 : ((rd l0 x14_1) == (rd l1 x14_1)) = true := beq_iff_eq.mpr c8
         have c8b1 : ((rd l0 x14_1) != (rd l1 x14_1)) = false := bne_eq_false_iff_eq.mpr c8
         clear c8
         have H' := am H
         clear H
         have p165 : 0 ≤ (x14_1 : Int) := od
         have q165 : x14_1 < (l0.length : Int) := od
         obtain ⟨ad165, e165, hx165_0⟩ := Kd.at_int HR0.out x14_1 p165 q165
         cases e165
         replace p165 := eq_true p165
         replace q165 := eq_true q165
         have p166 : 0 ≤ (x14_1 : Int) := od
         have q166 : x14_1 < (l1.length : Int) := od
         obtain ⟨ad166, e166, hx166_0⟩ := Kd.at_int HR1.out x14_1 p166 q166
         cases e166
         replace p166 := eq_true p166
         replace q166 := eq_true q166
         go_wp2
         go_roundg k1
         case measure => have := HK1.out; omega
         case rel => exact ⟨(wrap64 (x14_1 + 1)), (by first | rfl | (simp; done) | (simp [*]; done)), H', ⟨by have := HK1.out; omega⟩, by repeat (first | exact Drawn0.refl _ | apply Drawn0.step)⟩
        ·rw [if_neg c8] at H
         have c8b0 : ((rd l0 x14_1) == (rd l1 x14_1)) = false := beq_eq_false_iff_ne.mpr c8
         have c8b1 : ((rd l0 x14_1) != (rd l1 x14_1)) = true := bne_iff_ne.mpr c8
         obtain rfl := Option.some.inj H
         have p165 : 0 ≤ (x14_1 : Int) := od
         have q165 : x14_1 < (l0.length : Int) := od
         obtain ⟨ad165, e165, hx165_0⟩ := Kd.at_int HR0.out x14_1 p165 q165
         cases e165
         replace p165 := eq_true p165
         replace q165 := eq_true q165
         have p166 : 0 ≤ (x14_1 : Int) := od
         have q166 : x14_1 < (l1.length : Int) := od
         obtain ⟨ad166, e166, hx166_0⟩ := Kd.at_int HR1.out x14_1 p166 q166
         cases e166
         replace p166 := eq_true p166
         replace q166 := eq_true q166
         go_wp2
         go_ret
         exact ⟨by first | rfl | (simp; done) | (simp [*]; done), by repeat (first | exact Drawn0.refl _ | apply Drawn0.step)⟩
       ·rw [if_neg c7] at H
        exact absurd H (by simp)
      ·rw [if_neg c6] at H
       exact absurd H (by simp)
     ·rw [if_neg c5] at H
      exact absurd H (by simp)
    ·rw [if_neg c4] at H
     have c4b0 : decide (x14_1 < (l0.length : Int)) = false := decide_eq_false c4
     clear c4
     obtain rfl := Option.some.inj H
     go_wp2
     go_ret
     exact ⟨by first | rfl | (simp; done) | (simp [*]; done), by repeat (first | exact Drawn0.refl _ | apply Drawn0.step)⟩
 ·rw [if_neg c3] at H
  have c3b0 : ((l0.length : Int) == (l1.length : Int)) = false := beq_eq_false_iff_ne.mpr c3
  have c3b1 : ((l0.length : Int) != (l1.length : Int)) = true := bne_iff_ne.mpr c3
  have c3b2 : (l0.length == l1.length) = false := by first | simpa using c3 | (simp at c3 ⊢; omega)
  obtain rfl := Option.some.inj H
  go_enter Tryz.func148, Tryz.ntmps148
  go_wp2
  go_ret
  exact ⟨by first | rfl | (simp; done) | (simp [*]; done), by repeat (first | exact Drawn0.refl _ | apply Drawn0.step)⟩

def letHt (r : Nat) : Int := if r = 0 then 0 else if r = 1 then 2 else if r = 2 then 4 else if r = 3 then 5 else if r = 4 then 7 else if r = 5 then 9 else 10
def impl_Tone_height.f (a0 : Int) (b0 : Bool) : Option Int := if 0 ≤ a0 then (if a0 < 1000 then some (letHt (a0 % 7).toNat + 12 * (a0 / 7) - (if b0 = true then 1 else 0)) else none) else none
set_option maxHeartbeats 2000000 in
set_option maxRecDepth 100000 in
theorem impl_Tone_height.calls (a0 : Int) (b0 : Bool) (r : Int) (w : World) (hTH : TabH w) (h : impl_Tone_height.f a0 b0 = some r) :
  Calls Tryz.prog 110 #[.agg #[.int .i64 a0, .bool b0]] w fun e w' => e = .returned (.int .i64 r) ∧ Below w.heap.size w w' := by
 have hu2 := Tryz.underlying49
 have hT := hTH.alloc (.cells #[.int .i64 a0, .bool b0] 49)
 have HB0 := am (below_alloc (Below.refl w.heap.size w) (.cells #[.int .i64 a0, .bool b0] 49))
 unfold impl_Tone_height.f at h
 by_cases h0 : 0 ≤ a0
 ·by_cases h1 : a0 < 1000
  ·rw [if_pos h0, if_pos h1] at h
   have e1 := Option.some.inj h
   subst e1
   have hx : a0 % 7 = 0 ∨ a0 % 7 = 1 ∨ a0 % 7 = 2 ∨ a0 % 7 = 3 ∨ a0 % 7 = 4 ∨ a0 % 7 = 5 ∨ a0 % 7 = 6 := by omega
   have c0 : (w.alloc (.cells #[.int .i64 a0, .bool b0] 49)).cell? ⟨8, 0, none⟩ = some (.int .i64 0) := hT 0 _ rfl
   have c1 : (w.alloc (.cells #[.int .i64 a0, .bool b0] 49)).cell? ⟨8, 1, none⟩ = some (.int .i64 2) := hT 1 _ rfl
   have c2 : (w.alloc (.cells #[.int .i64 a0, .bool b0] 49)).cell? ⟨8, 2, none⟩ = some (.int .i64 4) := hT 2 _ rfl
   have c3 : (w.alloc (.cells #[.int .i64 a0, .bool b0] 49)).cell? ⟨8, 3, none⟩ = some (.int .i64 5) := hT 3 _ rfl
   have c4 : (w.alloc (.cells #[.int .i64 a0, .bool b0] 49)).cell? ⟨8, 4, none⟩ = some (.int .i64 7) := hT 4 _ rfl
   have c5 : (w.alloc (.cells #[.int .i64 a0, .bool b0] 49)).cell? ⟨8, 5, none⟩ = some (.int .i64 9) := hT 5 _ rfl
   have c6 : (w.alloc (.cells #[.int .i64 a0, .bool b0] 49)).cell? ⟨8, 6, none⟩ = some (.int .i64 10) := hT 6 _ rfl
   clear hT hTH h
   have k0 : (w.alloc (.cells #[.int .i64 a0, .bool b0] 49)).cell? ⟨w.heap.size, 0, none⟩ = some (.int .i64 a0) := blk_cell (blk_new w _) 0
   have k1 : (w.alloc (.cells #[.int .i64 a0, .bool b0] 49)).cell? ⟨w.heap.size, 1, none⟩ = some (.bool b0) := blk_cell (blk_new w _) 1
   have htm : a0.tmod 7 = a0 % 7 := Int.tmod_eq_emod_of_nonneg h0
   have htd : a0.tdiv 7 = a0 / 7 := Int.tdiv_eq_ediv_of_nonneg h0
   obtain ⟨q, hq⟩ : ∃ q, q = a0 / 7 := ⟨_, rfl⟩
   have hq0 : 0 ≤ q := by omega
   have hq1 : q < 200 := by omega
   rw [← hq] at htd
   rw [← hq]
   rcases hx with hx | hx | hx | hx | hx | hx | hx
   all_goals
    rw [hx]
    rw [hx] at htm
    have w1 : IntKind.i64.wrap (12 * q) = 12 * q := IntWalk.i64_in _ (by omega)
    have w2 : IntKind.i64.wrap (letHt (Int.toNat (a0 % 7)) + 12 * q) = letHt (Int.toNat (a0 % 7)) + 12 * q := by
     rw [hx]
     exact IntWalk.i64_in _ (by simp [letHt]; omega)
    have w3 : -9223372036854775808 ≤ letHt (Int.toNat (a0 % 7)) + 12 * q - 1 := by
     rw [hx]
     simp [letHt]
     omega
    rw [hx] at w2 w3
    obtain ⟨S, hS⟩ : ∃ S, S = letHt (Int.toNat (a0 % 7)) + 12 * q := ⟨_, rfl⟩
    rw [hx] at hS
    rw [← hS] at w2 w3
    rw [← hS]
    have w4 : S ≤ 100000 := by
     rw [hS]
     simp [letHt]
     omega
    cases b0
    all_goals
     go_enter Tryz.func110, Tryz.ntmps110
     go_wp2_with fail
     go_quiet (fail)
     go_wp2
     all_goals first
      | (exact absurd ‹false = true› (by decide))
      | (exact absurd rfl ‹¬ true = true›)
      | (go_ret; refine ⟨?_, pw_below_drewN HB0.out _⟩; refine congrArg Ending.returned (congrArg (Value.int IntKind.i64) ?_); first | rfl | (simp [letHt]; done) | (simp [letHt]; omega))
  ·rw [if_pos h0, if_neg h1] at h
   exact absurd h (by simp)
 ·rw [if_neg h0] at h
  exact absurd h (by simp)


/-! ### impl_ToneSemis: function 163 -/
def impl_ToneSemis.j0 : Nat → Bool → Int → Bool → Int → Bool → Option (Int × Bool)
 | 0, _, _, _, _, _ => none
 | k + 1, x13, x168000, x168001, x169000, x169001 => if x13 = true then (some (0, false)) else ((impl_Tone_height.f x169000 x169001).bind fun t171 => ((impl_Tone_height.f x168000 x168001).bind fun t172 => (some (wrap64 (t171 - t172), true))))
def impl_ToneSemis.f (k : Nat) (a0_0 : Int) (a0_1 : Bool) (a1_0 : Int) (a1_1 : Bool) : Option (Int × Bool) := (impl_Tone_valid.f a0_0 a0_1).bind fun t169 => (if t169 = true then ((impl_Tone_valid.f a1_0 a1_1).bind fun t170 => (impl_ToneSemis.j0 k (!t170) a0_0 a0_1 a1_0 a1_1)) else (impl_ToneSemis.j0 k true a0_0 a0_1 a1_0 a1_1))
set_option maxHeartbeats 8000000 in
set_option maxRecDepth 100000 in
theorem impl_ToneSemis.calls (k : Nat) (a0_0 : Int) (a0_1 : Bool) (a1_0 : Int) (a1_1 : Bool) (r1 : Int) (r2 : Bool) (w : World) (hTH : TabH w) (h : impl_ToneSemis.f k a0_0 a0_1 a1_0 a1_1 = some (r1, r2)) :
  Calls Tryz.prog 163 #[.agg #[.int .i64 a0_0, .bool a0_1], .agg #[.int .i64 a1_0, .bool a1_1]] w fun e w' => e = .returned (.tuple #[.int .i64 r1, .bool r2]) ∧ Below w.heap.size w w' := by
 have hu49 := Tryz.underlying49
 have HTH := am hTH
 clear hTH
 have HB := am (Below.refl w.heap.size w)
 have H : ((impl_Tone_valid.f a0_0 a0_1).bind fun t169 => (if t169 = true then ((impl_Tone_valid.f a1_0 a1_1).bind fun t170 => (impl_ToneSemis.j0 k (!t170) a0_0 a0_1 a1_0 a1_1)) else (impl_ToneSemis.j0 k true a0_0 a0_1 a1_0 a1_1))) = some (r1, r2) := h
 clear h
 have HC3 := am H
 clear H
 go_enter Tryz.func163, Tryz.ntmps163
 go_upto_region 1 with (first | ((with_reducible refine gate_dst (N := 2) rfl ?_); refine box_event ?hg (N := 2) ?hd (cs := #[.int .i64 a0_0, .bool a0_1]) (t := 49) ?hr ?_; (case hd => rfl); (case hg => rfl); (case hr => first | (go_simp; done) | (go_simp; rfl)); intro gb167 hg w4 hbox hb; have n0_ := am (below_step (bu HB.out) hb); have n1_ := am (hbox); have n2_ := am ((by rw [hg]; exact (below_size (bu HB.out)) : w.heap.size ≤ gb167)); have n3_ := am ((by rw [hg]; exact (below_size (bu HB.out)) : w.heap.size ≤ gb167)); clear HB; have HB := n0_; have BK167 := n1_; have GW167 := n2_; have GE167 := n3_; clear n0_ n1_ n2_ n3_; clear hb hbox hg) | ((with_reducible refine gate_dst (N := 3) rfl ?_); refine box_event ?hg (N := 3) ?hd (cs := #[.int .i64 a1_0, .bool a1_1]) (t := 49) ?hr ?_; (case hd => rfl); (case hg => rfl); (case hr => first | (go_simp; done) | (go_simp; rfl)); intro gb168 hg w5 hbox hb; have n0_ := am (blk_below (g := gb167) (o := .cells #[.int .i64 a0_0, .bool a0_1] 49 (0, 0)) (gu BK167.out) hb); have n1_ := am (below_step (bu HB.out) hb); have n2_ := am (hbox); have n3_ := am ((by rw [hg]; exact (below_size (bu HB.out)) : w.heap.size ≤ gb168)); have n4_ := am ((by rw [hg]; exact (below_size (bu HB.out)) : w.heap.size ≤ gb168)); have n5_ := am ((by rw [hg]; exact Nat.ne_of_lt (blk_lt (g := gb167) (o := .cells #[.int .i64 a0_0, .bool a0_1] 49 (0, 0)) (gu BK167.out)) : gb167 ≠ gb168)); have n6_ := am ((by rw [hg]; exact Nat.ne_of_gt (blk_lt (g := gb167) (o := .cells #[.int .i64 a0_0, .bool a0_1] 49 (0, 0)) (gu BK167.out)) : gb168 ≠ gb167)); clear BK167; clear HB; have BK167 := n0_; have HB := n1_; have BK168 := n2_; have GW168 := n3_; have GE168 := n4_; have NB167_168 := n5_; have NB168_167 := n6_; clear n0_ n1_ n2_ n3_ n4_ n5_ n6_; clear hb hbox hg))
 (try simp only [Act.put, sA, sZ, sS])
 go_cut [13] (fun v13 wc => ∃ (kq : Nat) (x13_2 : Bool), v13 = .bool x13_2 ∧ Aside0 (impl_ToneSemis.j0 kq x13_2 a0_0 a0_1 a1_0 a1_1 = some (r1, r2)) ∧ Aside0 (kq ≤ k) ∧ Aside0 (wc.heap[gb167]? = some (.cells #[.int .i64 a0_0, .bool a0_1] 49 (0, 0))) ∧ Aside0 (wc.heap[gb168]? = some (.cells #[.int .i64 a1_0, .bool a1_1] 49 (0, 0))) ∧ Aside0 (Below w.heap.size w wc))
 case first =>
  have H := HC3.out
  clear HC3
  replace H := Option.bind_eq_some_iff.mp H
  obtain ⟨t169, A60, H⟩ := H
  replace H : (if t169 = true then ((impl_Tone_valid.f a1_0 a1_1).bind fun t170 => (impl_ToneSemis.j0 k (!t170) a0_0 a0_1 a1_0 a1_1)) else (impl_ToneSemis.j0 k true a0_0 a0_1 a1_0 a1_1)) = some (r1, r2) := H
  have A6 := am A60
  clear A60
  by_cases c7 : t169 = true
  ·subst c7
   have H1 : ((impl_Tone_valid.f a1_0 a1_1).bind fun t170 => (impl_ToneSemis.j0 k (!t170) a0_0 a0_1 a1_0 a1_1)) = some (r1, r2) := by rw [if_pos rfl] at H; exact H
   clear H
   have H := H1
   clear H1
   replace H := Option.bind_eq_some_iff.mp H
   obtain ⟨t170, A80, H⟩ := H
   replace H : (impl_ToneSemis.j0 k (!t170) a0_0 a0_1 a1_0 a1_1) = some (r1, r2) := H
   have A8 := am A80
   clear A80
   have H' := am H
   clear H
   have hnb9 := NB167_168.out
   have hnc9 := NB168_167.out
   have hcz10_0 : w5.cell? ⟨gb167, 0, none⟩ = some (.int .i64 a0_0) := (blk_cell BK167.out 0).trans rfl
   have hcz10_1 : w5.cell? ⟨gb167, 1, none⟩ = some (.bool a0_1) := (blk_cell BK167.out 1).trans rfl
   have hfz10_0 := blk_frozen BK167.out 0
   have hfz10_1 := blk_frozen BK167.out 1
   go_wp2_with (first | ((with_reducible refine gate_callee (f := 36) rfl ?_); refine goesL_ (some 7) rfl rfl Tryz.func36 (by kernel_rfl) rfl #[.agg #[.int .i64 a0_0, .bool a0_1]] rfl (by (try simp only [List.map_toArray, List.map_cons, List.map_nil]); first | done | rfl | (simp only [List.length_drop, List.length_take]; rfl)) ?_; (with_reducible refine (impl_Tone_valid.calls a0_0 a0_1 true _ A6.out).mono ?_); rintro e w11 ⟨rfl, hb⟩; refine ⟨_, rfl, ?_⟩; have n0_ := am (blk_below (g := gb167) (o := .cells #[.int .i64 a0_0, .bool a0_1] 49 (0, 0)) (gu BK167.out) hb); have n1_ := am (blk_below (g := gb168) (o := .cells #[.int .i64 a1_0, .bool a1_1] 49 (0, 0)) (gu BK168.out) hb); have n2_ := am (below_step (bu HB.out) hb); clear BK167; clear BK168; clear HB; have BK167 := n0_; have BK168 := n1_; have HB := n2_; clear n0_ n1_ n2_; (try clear hb); (try clear hb2); (try clear hk); (try clear hi); have hcz12_0 : w11.cell? ⟨gb168, 0, none⟩ = some (.int .i64 a1_0) := (blk_cell BK168.out 0).trans rfl; have hcz12_1 : w11.cell? ⟨gb168, 1, none⟩ = some (.bool a1_1) := (blk_cell BK168.out 1).trans rfl; have hfz12_0 := blk_frozen BK168.out 0; have hfz12_1 := blk_frozen BK168.out 1) | (go_at_call 36; (with_reducible refine (impl_Tone_valid.calls a1_0 a1_1 t170 _ A8.out).mono ?_); rintro e w13 ⟨rfl, hb⟩; have n0_ := am (blk_below (g := gb167) (o := .cells #[.int .i64 a0_0, .bool a0_1] 49 (0, 0)) (gu BK167.out) hb); have n1_ := am (blk_below (g := gb168) (o := .cells #[.int .i64 a1_0, .bool a1_1] 49 (0, 0)) (gu BK168.out) hb); have n2_ := am (below_step (bu HB.out) hb); clear BK167; clear BK168; clear HB; have BK167 := n0_; have BK168 := n1_; have HB := n2_; clear n0_ n1_ n2_; (try clear hb); (try clear hb2); (try clear hk); (try clear hi)))
   go_meet
   case rel => exact ⟨_, (!t170), (by first | rfl | (simp; done) | (simp [*]; done)), H', ⟨by first | omega | exact Nat.le_refl _⟩, ⟨gu BK167.out⟩, ⟨gu BK168.out⟩, ⟨bu HB.out⟩⟩
  ·replace c7 := Bool.eq_false_iff.mpr c7
   subst c7
   have H1 : (impl_ToneSemis.j0 k true a0_0 a0_1 a1_0 a1_1) = some (r1, r2) := by rw [if_neg (show ¬ (false = true) by decide)] at H; exact H
   clear H
   have H := H1
   clear H1
   have H' := am H
   clear H
   have hnb14 := NB167_168.out
   have hnc14 := NB168_167.out
   have hcz15_0 : w5.cell? ⟨gb167, 0, none⟩ = some (.int .i64 a0_0) := (blk_cell BK167.out 0).trans rfl
   have hcz15_1 : w5.cell? ⟨gb167, 1, none⟩ = some (.bool a0_1) := (blk_cell BK167.out 1).trans rfl
   have hfz15_0 := blk_frozen BK167.out 0
   have hfz15_1 := blk_frozen BK167.out 1
   go_wp2_with (first | ((with_reducible refine gate_callee (f := 36) rfl ?_); refine goesL_ (some 7) rfl rfl Tryz.func36 (by kernel_rfl) rfl #[.agg #[.int .i64 a0_0, .bool a0_1]] rfl (by (try simp only [List.map_toArray, List.map_cons, List.map_nil]); first | done | rfl | (simp only [List.length_drop, List.length_take]; rfl)) ?_; (with_reducible refine (impl_Tone_valid.calls a0_0 a0_1 false _ A6.out).mono ?_); rintro e w16 ⟨rfl, hb⟩; refine ⟨_, rfl, ?_⟩; have n0_ := am (blk_below (g := gb167) (o := .cells #[.int .i64 a0_0, .bool a0_1] 49 (0, 0)) (gu BK167.out) hb); have n1_ := am (blk_below (g := gb168) (o := .cells #[.int .i64 a1_0, .bool a1_1] 49 (0, 0)) (gu BK168.out) hb); have n2_ := am (below_step (bu HB.out) hb); clear BK167; clear BK168; clear HB; have BK167 := n0_; have BK168 := n1_; have HB := n2_; clear n0_ n1_ n2_; (try clear hb); (try clear hb2); (try clear hk); (try clear hi)))
   go_meet
   case rel => exact ⟨_, (true), (by first | rfl | (simp; done) | (simp [*]; done)), H', ⟨by first | omega | exact Nat.le_refl _⟩, ⟨gu BK167.out⟩, ⟨gu BK168.out⟩, ⟨bu HB.out⟩⟩
 case rest =>
  clear HC3
  try clear c1
  try clear p2
  try clear c3
  try clear c7
  try clear c9
  try clear c14
  try clear c16
  try clear hcz10_0
  try clear hcz10_1
  try clear hcz12_0
  try clear hcz12_1
  try clear hcz15_0
  try clear hcz15_1
  try clear hfz10_0
  try clear hfz10_1
  try clear hfz12_0
  try clear hfz12_1
  try clear hfz15_0
  try clear hfz15_1
  obtain ⟨kq, x13_2, rfl, HA, HJ2, BK167, BK168, HB⟩ := hcut
  cases kq with
  | zero => exact absurd HA.out (by simp [impl_ToneSemis.j0])
  | succ kj2 =>
   have H := HA.out
   clear HA
   simp only [impl_ToneSemis.j0] at H
   by_cases c17 : x13_2 = true
   ·subst c17
    have H1 : (some (0, false)) = some (r1, r2) := by rw [if_pos rfl] at H; exact H
    clear H
    have H := H1
    clear H1
    simp only [Option.some.injEq, Prod.mk.injEq] at H
    obtain ⟨rfl, rfl⟩ := H
    go_wp2
    go_ret2
    exact ⟨by first | rfl | (simp [errW_none, errW_some] <;> rfl) | (simp [*, errW_none, errW_some] <;> rfl), bu HB.out⟩
   ·replace c17 := Bool.eq_false_iff.mpr c17
    subst c17
    have H1 : ((impl_Tone_height.f a1_0 a1_1).bind fun t171 => ((impl_Tone_height.f a0_0 a0_1).bind fun t172 => (some (wrap64 (t171 - t172), true)))) = some (r1, r2) := by rw [if_neg (show ¬ (false = true) by decide)] at H; exact H
    clear H
    have H := H1
    clear H1
    replace H := Option.bind_eq_some_iff.mp H
    obtain ⟨t171, A180, H⟩ := H
    replace H : ((impl_Tone_height.f a0_0 a0_1).bind fun t172 => (some (wrap64 (t171 - t172), true))) = some (r1, r2) := H
    have A18 := am A180
    clear A180
    replace H := Option.bind_eq_some_iff.mp H
    obtain ⟨t172, A190, H⟩ := H
    replace H : (some (wrap64 (t171 - t172), true)) = some (r1, r2) := H
    have A19 := am A190
    clear A190
    simp only [Option.some.injEq, Prod.mk.injEq] at H
    obtain ⟨rfl, rfl⟩ := H
    try go_wp2
    have n0_ := am (blk_drew BK167.out)
    have n1_ := am (blk_drew BK168.out)
    have n2_ := am (below_drew1 HB.out)
    clear BK167
    clear BK168
    clear HB
    have BK167 := n0_
    have BK168 := n1_
    have HB := n2_
    clear n0_ n1_ n2_
    refine start_ (n := 7) (S := fun w' => w'.cell? ⟨gb168, 0, none⟩ = some (.int .i64 a1_0) ∧ w'.cell? ⟨gb168, 1, none⟩ = some (.bool a1_1) ∧ w'.cell? ⟨gb167, 0, none⟩ = some (.int .i64 a0_0) ∧ w'.cell? ⟨gb167, 1, none⟩ = some (.bool a0_1)) (ds := []) #[F,F,F,F,F,F,F] (by kernel_rfl) rfl rfl ⟨(blk_cell BK168.out 0).trans rfl, (blk_cell BK168.out 1).trans rfl, (blk_cell BK167.out 0).trans rfl, (blk_cell BK167.out 1).trans rfl⟩ (fun hHeld => ?_)
    generalize wc.drew = w20 at BK167 BK168 HB hHeld ⊢
    refine tz hHeld 0 (some 14) #[T,F,F,F,F,F,F] (by kernel_rfl) (h := ?_)
    refine tz hHeld 2 (some 16) #[T,F,T,F,F,F,F] (by kernel_rfl) (h := ?_)
    refine one_ (i := 1) (N := some 15) #[T,T,T,F,F,F,F] rfl rfl (by kernel_rfl) (by decide) (fun K hK => ?_)
    refine goes_ Tryz.func110 (by kernel_rfl) rfl #[.agg #[.int .i64 a1_0, .bool a1_1]] (by rfl) rfl rfl (by (try simp only [List.map_toArray, List.map_cons, List.map_nil]); first | done | rfl | (simp only [List.length_drop, List.length_take]; rfl)) ?_
    with_reducible refine (impl_Tone_height.calls a1_0 a1_1 t171 _ ?side1 A18.out).mono ?_
    (case side1 => first | exact HTH.out | exact TabAt.below HTH.out (bu HB.out))
    rintro e w21 ⟨rfl, hb⟩
    refine ⟨_, rfl, ?_⟩
    have n0_ := am (blk_below (g := gb167) (o := .cells #[.int .i64 a0_0, .bool a0_1] 49 (0, 0)) (gu BK167.out) hb)
    have n1_ := am (blk_below (g := gb168) (o := .cells #[.int .i64 a1_0, .bool a1_1] 49 (0, 0)) (gu BK168.out) hb)
    have n2_ := am (below_step (bu HB.out) hb)
    clear BK167
    clear BK168
    clear HB
    have BK167 := n0_
    have BK168 := n1_
    have HB := n2_
    clear n0_ n1_ n2_
    (try clear hb)
    (try clear hb2)
    (try clear hk)
    (try clear hi)
    refine hK.out _ _ ⟨(blk_cell BK168.out 0).trans rfl, (blk_cell BK168.out 1).trans rfl, (blk_cell BK167.out 0).trans rfl, (blk_cell BK167.out 1).trans rfl⟩ (fun hHeld => ?_)
    clear hK K
    refine norm_ (a' := ?_) ?_ ?_
    rotate_left
    ·show Act.put _ (some 15) _ = _
     simp only [Act.put, sA, sZ, sS, i64_w, i32_w]
     rfl
    refine one_ (i := 3) (N := some 17) #[T,T,T,T,F,F,F] rfl rfl (by kernel_rfl) (by decide) (fun K hK => ?_)
    refine goes_ Tryz.func110 (by kernel_rfl) rfl #[.agg #[.int .i64 a0_0, .bool a0_1]] (by rfl) rfl rfl (by (try simp only [List.map_toArray, List.map_cons, List.map_nil]); first | done | rfl | (simp only [List.length_drop, List.length_take]; rfl)) ?_
    with_reducible refine (impl_Tone_height.calls a0_0 a0_1 t172 _ ?side1 A19.out).mono ?_
    (case side1 => first | exact HTH.out | exact TabAt.below HTH.out (bu HB.out))
    rintro e w22 ⟨rfl, hb⟩
    refine ⟨_, rfl, ?_⟩
    have n0_ := am (blk_below (g := gb167) (o := .cells #[.int .i64 a0_0, .bool a0_1] 49 (0, 0)) (gu BK167.out) hb)
    have n1_ := am (blk_below (g := gb168) (o := .cells #[.int .i64 a1_0, .bool a1_1] 49 (0, 0)) (gu BK168.out) hb)
    have n2_ := am (below_step (bu HB.out) hb)
    clear BK167
    clear BK168
    clear HB
    have BK167 := n0_
    have BK168 := n1_
    have HB := n2_
    clear n0_ n1_ n2_
    (try clear hb)
    (try clear hb2)
    (try clear hk)
    (try clear hi)
    refine hK.out _ _ ⟨(blk_cell BK168.out 0).trans rfl, (blk_cell BK168.out 1).trans rfl, (blk_cell BK167.out 0).trans rfl, (blk_cell BK167.out 1).trans rfl⟩ (fun hHeld => ?_)
    clear hK K
    refine norm_ (a' := ?_) ?_ ?_
    rotate_left
    ·show Act.put _ (some 17) _ = _
     simp only [Act.put, sA, sZ, sS, i64_w, i32_w]
     rfl
    refine pz 4 (some 18) #[T,T,T,T,T,F,F] (by kernel_rfl) (h := ?_)
    refine pz 5 (some 4) #[T,T,T,T,T,T,F] (by kernel_rfl) (h := ?_)
    refine pz 6 (some 5) #[T,T,T,T,T,T,T] (by kernel_rfl) (h := ?_)
    refine done_ (by kernel_rfl) ?_
    try go_wp2
    go_ret2
    exact ⟨by first | rfl | (simp [errW_none, errW_some] <;> rfl) | (simp [*, errW_none, errW_some] <;> rfl), bu HB.out⟩

/-! ### MelodySemis, by hand -/
def hgS (t : S49) : Int := letHt (t.f0 % 7).toNat + 12 * (t.f0 / 7) - (if t.f1 = true then 1 else 0)
def semD (t u : S49) : Int := hgS u - hgS t
def semisOf : List S49 → List Int
 | [] => []
 | t :: r => match r with
  | [] => []
  | u :: _ => (semD t u) :: semisOf r
theorem semisOf_len : ∀ l : List S49, (semisOf l).length = l.length - 1
 | [] => rfl
 | [_] => rfl
 | t :: u :: r => by
  rw [semisOf, List.length_cons, semisOf_len (u :: r)]
  simp
theorem semisOf_snoc : ∀ (l : List S49) (t u : S49), semisOf (l ++ [t] ++ [u]) = semisOf (l ++ [t]) ++ [semD t u]
 | [], t, u => rfl
 | [x], t, u => rfl
 | x :: y :: r, t, u => by
  have ih := semisOf_snoc (y :: r) t u
  simp only [List.cons_append] at ih ⊢
  rw [semisOf, semisOf, ih, List.cons_append]
theorem mz_pos {k : Nat} {l : List S49} (h : impl_MelodyValid.f k l = some true) : ∃ m, k = m + 1 := by
 cases k with
 | zero =>
  unfold impl_MelodyValid.f at h
  split at h <;> simp [impl_MelodyValid.l0] at h
 | succ m => exact ⟨m, rfl⟩
theorem mz_lt (r : Nat) : 0 ≤ letHt r ∧ letHt r ≤ 10 := by
 unfold letHt
 repeat' split
 all_goals omega
theorem mz_hg {s : Int} {b : Bool} (h : impl_Tone_valid.f s b = some true) : impl_Tone_height.f s b = some (hgS ⟨s, b⟩) ∧ -1 ≤ hgS ⟨s, b⟩ ∧ hgS ⟨s, b⟩ ≤ 100 := by
 have h1 := ms_bd h
 have h2 := mz_lt (s % 7).toNat
 refine ⟨by unfold impl_Tone_height.f; rw [if_pos h1.1, if_pos (by omega)]; rfl, ?_, ?_⟩
 all_goals
  unfold hgS
  dsimp only
  split <;> omega
theorem mz_step {t u : S49} {k : Nat} (ht : impl_Tone_valid.f t.f0 t.f1 = some true) (hu : impl_Tone_valid.f u.f0 u.f1 = some true) : impl_ToneSemis.f (k + 1) t.f0 t.f1 u.f0 u.f1 = some (semD t u, true) := by
 have h1 := mz_hg ht
 have h2 := mz_hg hu
 have e1 : hgS ⟨t.f0, t.f1⟩ = hgS t := rfl
 have e2 : hgS ⟨u.f0, u.f1⟩ = hgS u := rfl
 rw [e1] at h1
 rw [e2] at h2
 unfold impl_ToneSemis.f
 rw [ht, Option.bind_some, if_pos rfl, hu, Option.bind_some, impl_ToneSemis.j0]
 rw [if_neg (by decide), h2.1, Option.bind_some, h1.1, Option.bind_some, show wrap64 (hgS u - hgS t) = semD t u by unfold wrap64 semD; omega]
set_option maxHeartbeats 8000000 in
set_option maxRecDepth 100000 in
theorem semis_any (n : Nat) (A0 : Option Addr) (c0 : Nat) (l0 : List S49) (w : World) (hr0 : Kd.C k49 w A0 l0.length l0) (hc0 : l0.length ≤ c0) (hv : impl_MelodyValid.f n l0 = some true) (hne : 0 < l0.length) (hTH : TabH w) :
  Calls Tryz.prog 112 #[.slice A0 l0.length c0, .func (.func 163) #[] #[]] w fun e w' => ∃ v0_ : Value, e = .returned v0_ ∧ Kd.R (Kd.int .i64) 3 w' w.heap.size (fun _ => True) v0_ (semisOf l0) ∧ Below w.heap.size w w' := by
 obtain ⟨hl, hva⟩ := ms_facts hv
 have HR0 := am hr0
 have HC0 := am hc0
 have HV := am hv
 have HVA := am hva
 have HL := am hl
 have HNE := am hne
 have HTH : Aside0 (TabH w) := ⟨hTH⟩
 obtain ⟨kn, hkn⟩ := mz_pos hv
 clear hTH hkn
 have b0 : ((l0.length : Int) == 0) = false := beq_eq_false_iff_ne.2 (by omega)
 clear hr0 hc0 hv hva hl hne
 have HB0 := am (below_alloc (Below.refl w.heap.size w) (.cells #[] 3))
 have HZ0 := am (blk_new w (.cells #[] 3))
 go_enter Tryz.func112, Tryz.ntmps112
 go_wp2_with fail
 refine (impl_MelodyValid.calls n A0 c0 l0 true _ (Kd.C_below HR0.out HB0.out) HC0.out HV.out).mono ?_
 rintro e w1 ⟨rfl, hb⟩
 have HB1 := am (below_step HB0.out hb)
 have HZ1 := am (blk_below HZ0.out hb)
 clear hb HB0 HZ0
 go_wp2_with fail
 refine (linked_any A0 c0 l0 _ (Kd.C_below HR0.out HB1.out) HC0.out (by have := HL.out; omega)).mono ?_
 rintro e w2 ⟨p, rfl, hL, hb⟩
 have HB2 := am (below_step HB1.out hb)
 have HZ2 := am (blk_below HZ1.out hb)
 have HL2 := am hL
 clear hb hL HB1 HZ1
 go_wp2_with fail
 go_loopg [5, 6] l0.length (fun kq v5 v6 w' => ∃ (i : Nat) (p : Option Addr), v6 = .pointer p ∧ Aside0 (i < l0.length ∧ kq = l0.length - i) ∧ Aside0 (IsList w' p (l0.drop i)) ∧ Aside0 (Kd.R (Kd.int .i64) 3 w' w.heap.size (fun _ => True) v5 (semisOf (l0.take (i + 1)))) ∧ Aside0 (Below w.heap.size w w'))
 case atStart =>
  refine ⟨0, p, rfl, ⟨HNE.out, by omega⟩, ⟨by simpa using HL2.out⟩, ⟨?_⟩, HB2⟩
  rw [show semisOf (l0.take (0 + 1)) = [] by
   cases l0 with
   | nil => rfl
   | cons t r => rfl]
  exact ms_empty _ _ _ trivial HZ2.out (Nat.le_refl _)
 case round =>
  obtain ⟨i, p', rfl, HI, HLS, HO, HB⟩ := hrel
  clear HB2 HZ2 HL2
  have hin : i < l0.length := HI.out.1
  obtain ⟨S, hS⟩ : ∃ S, S = semisOf (l0.take (i + 1)) := ⟨_, rfl⟩
  have hO := HO.out
  rw [← hS] at hO
  obtain ⟨A5, c5, rfl⟩ := Kd.R_slice hO
  have HO := am hO
  have HSE := am hS
  obtain ⟨t, ht⟩ : ∃ t, t = l0[i] := ⟨_, rfl⟩
  have hL := HLS.out
  rw [List.drop_eq_getElem_cons hin, ← ht] at hL
  obtain ⟨g, q, rfl, hg, hR⟩ := hL
  have HG := am hg
  by_cases hlast : i + 1 < l0.length
  ·obtain ⟨u, hu⟩ : ∃ u, u = l0[i + 1] := ⟨_, rfl⟩
   rw [List.drop_eq_getElem_cons hlast, ← hu] at hR
   have HR := am hR
   obtain ⟨g2, q2, rfl, hg2, hR2⟩ := hR
   have HU := am hg2
   have kq2 : wr.cell? ⟨g, 2, none⟩ = some (.pointer (some ⟨g2, 0, none⟩)) := blk_cell hg 2
   have HST := am (mz_step (k := kn) (HVA.out t (by rw [ht]; exact List.getElem_mem hin)) (HVA.out u (by rw [hu]; exact List.getElem_mem hlast)))
   have HS2 := am (show semisOf (l0.take (i + 1 + 1)) = S ++ [semD t u] by
    rw [hS, ht, hu, List.take_succ_eq_append_getElem hlast, List.take_succ_eq_append_getElem hin, semisOf_snoc])
   have HD2 := am (show l0.drop (i + 1) = u :: l0.drop (i + 1 + 1) by rw [List.drop_eq_getElem_cons hlast, ← hu])
   have HSL := am (show S.length + 1 ≤ 24 by rw [hS, semisOf_len, List.length_take]; have := HL.out; omega)
   clear hS hO ht hu hg hg2 hR2 hin hlast HLS
   go_wp2_with fail
   have HG1 := am (blk_drew HG.out)
   have HU1 := am (blk_drew HU.out)
   have HR1 := am (IsList.below (below_drew1 (Below.refl _ _)) HR.out)
   have HO1 := am (Kd.R_drew HO.out)
   have HB1 := am (below_drew1 HB.out)
   refine start_ (n := 18) (S := fun w' => w'.cell? ⟨g, 0, none⟩ = some (.int .i64 t.f0) ∧ w'.cell? ⟨g, 1, none⟩ = some (.bool t.f1) ∧ w'.cell? ⟨g, 2, none⟩ = some (.pointer (some ⟨g2, 0, none⟩)) ∧ w'.cell? ⟨g2, 0, none⟩ = some (.int .i64 u.f0) ∧ w'.cell? ⟨g2, 1, none⟩ = some (.bool u.f1)) (ds := []) #[F,F,F,F,F,F,F,F,F,F,F,F,F,F,F,F,F,F] (by kernel_rfl) rfl rfl ⟨blk_cell HG1.out 0, blk_cell HG1.out 1, blk_cell HG1.out 2, blk_cell HU1.out 0, blk_cell HU1.out 1⟩ (fun hHeld => ?_)
   clear HG HU HR HO HB kq2
   generalize wr.drew = wd at HG1 HU1 HR1 HO1 HB1 hHeld ⊢
   refine pz 0 (some 31) #[T,F,F,F,F,F,F,F,F,F,F,F,F,F,F,F,F,F] (by kernel_rfl) (h := ?_)
   refine pz 1 (some 32) #[T,T,F,F,F,F,F,F,F,F,F,F,F,F,F,F,F,F] (by kernel_rfl) (h := ?_)
   refine pz 2 (some 33) #[T,T,T,F,F,F,F,F,F,F,F,F,F,F,F,F,F,F] (by kernel_rfl) (h := ?_)
   refine pz 3 (some 34) #[T,T,T,T,F,F,F,F,F,F,F,F,F,F,F,F,F,F] (by kernel_rfl) (h := ?_)
   refine pz 5 (some 36) #[T,T,T,T,F,T,F,F,F,F,F,F,F,F,F,F,F,F] (by kernel_rfl) (h := ?_)
   refine pz 6 (some 37) #[T,T,T,T,F,T,T,F,F,F,F,F,F,F,F,F,F,F] (by kernel_rfl) (h := ?_)
   refine pz 7 (some 38) #[T,T,T,T,F,T,T,T,F,F,F,F,F,F,F,F,F,F] (by kernel_rfl) (h := ?_)
   refine tz hHeld 4 (some 35) #[T,T,T,T,T,T,T,T,F,F,F,F,F,F,F,F,F,F] (by kernel_rfl) (h := ?_)
   refine tz hHeld 8 (some 39) #[T,T,T,T,T,T,T,T,T,F,F,F,F,F,F,F,F,F] (by kernel_rfl) (h := ?_)
   refine pz 9 (some 40) #[T,T,T,T,T,T,T,T,T,T,F,F,F,F,F,F,F,F] (by kernel_rfl) (h := ?_)
   refine pz 10 (some 41) #[T,T,T,T,T,T,T,T,T,T,T,F,F,F,F,F,F,F] (by kernel_rfl) (h := ?_)
   refine tz hHeld 11 (some 42) #[T,T,T,T,T,T,T,T,T,T,T,T,F,F,F,F,F,F] (by kernel_rfl) (h := ?_)
   refine one_ (i := 12) (N := some 43) #[T,T,T,T,T,T,T,T,T,T,T,T,T,F,F,F,F,F] rfl rfl (by kernel_rfl) (by decide) (fun K hK => ?_)
   refine goesW_ Tryz.func163 (by kernel_rfl) rfl 31 rfl #[.agg #[.int .i64 t.f0, .bool t.f1], .agg #[.int .i64 u.f0, .bool u.f1]] (by rfl) rfl rfl (by (try simp only [List.map_toArray, List.map_cons, List.map_nil]); first | done | rfl) ?_
   have HTH1 : Aside0 (TabH wd) := ⟨TabAt.below HTH.out HB1.out⟩
   with_reducible refine (impl_ToneSemis.calls (kn + 1) t.f0 t.f1 u.f0 u.f1 (semD t u) true _ HTH1.out HST.out).mono ?_
   rintro e we ⟨rfl, hb⟩
   refine ⟨_, rfl, ?_⟩
   have HG2 := am (blk_below HG1.out hb)
   have HU2 := am (blk_below HU1.out hb)
   have HR2 := am (IsList.below hb HR1.out)
   have HO2 := am (Kd.R_below HO1.out hb)
   have HB2 := am (below_step HB1.out hb)
   clear HG1 HU1 HR1 HO1 HB1 hb
   refine hK.out _ _ ⟨blk_cell HG2.out 0, blk_cell HG2.out 1, blk_cell HG2.out 2, blk_cell HU2.out 0, blk_cell HU2.out 1⟩ (fun hHeld => ?_)
   clear hK K
   refine norm_ (a' := ?_) ?_ ?_
   rotate_left
   ·show Act.put _ (some 43) _ = _
    simp only [Act.put, sA, sZ, sS, i64_w, i32_w]
    rfl
   refine pz 13 (some 30) #[T,T,T,T,T,T,T,T,T,T,T,T,T,T,F,F,F,F] (by kernel_rfl) (h := ?_)
   refine pz 14 (some 44) #[T,T,T,T,T,T,T,T,T,T,T,T,T,T,T,F,F,F] (by kernel_rfl) (h := ?_)
   refine pz 15 (some 45) #[T,T,T,T,T,T,T,T,T,T,T,T,T,T,T,T,F,F] (by kernel_rfl) (h := ?_)
   refine pz 16 (some 7) #[T,T,T,T,T,T,T,T,T,T,T,T,T,T,T,T,T,F] (by kernel_rfl) (h := ?_)
   refine pz 17 (some 8) #[T,T,T,T,T,T,T,T,T,T,T,T,T,T,T,T,T,T] (by kernel_rfl) (h := ?_)
   refine done_ (by kernel_rfl) ?_
   clear hHeld
   go_upto_region 9 with fail
   go_wp2_with (first | ((with_reducible refine gate_builtin (b := .append) (xs := #[.tmp 47, .tmp 49]) rfl ?_); at_builtin; refine Kd.R_append (Kd.int .i64) (w0 := w) w.heap.size rfl (.tmp 47) (.tmp 49) 35 3 (.int .i64 0) 8 rfl Tryz.underlying35 infoSI rfl (by decide) (by omega) (.slice A5 S.length c5) S (semD t u) [.int .i64 (semD t u)] (fun _ => True) (fun _ => False) rfl rfl ?aP (fun _ hk => hk.elim) ?aF ?aO ?aB ?aS ?aL ?_; (case aP => exact rfl); (case aB => exact HB2.out); (case aF => exact (fun _ _ => trivial)); (case aO => exact HO2.out); (case aS => exact (below_size HB2.out)); (case aL => have := HSL.out; omega); intro v1 w6 ho hb hg hat; have HO3 := am ho; have HB3 := am hb; have HG3 := am (blk_grown HG2.out hg (Kd.R_ne HO2.out HG2.out (by decide))); have HR3 := am (IsList.grown_i HO2.out hg HR2.out); have kq3 : w6.cell? ⟨g, 2, none⟩ = some (.pointer (some ⟨g2, 0, none⟩)) := blk_cell HG3.out 2; clear ho hb hg hat HO2 HB2 HG2 HR2 HU2))
   go_roundg (l0.length - (i + 1))
   case measure => have := HI.out; have := HD2.out; have := congrArg List.length this; simp at this; omega
   case rel =>
    refine ⟨i + 1, some ⟨g2, 0, none⟩, rfl, ⟨?_, rfl⟩, ⟨by rw [HD2.out]; exact HR3.out⟩, ⟨by rw [HS2.out]; exact HO3.out⟩, HB3⟩
    have := congrArg List.length HD2.out
    rw [List.length_drop, List.length_cons] at this
    omega
  ·have e0 : l0.drop (i + 1) = [] := List.drop_eq_nil_of_le (by omega)
   rw [e0] at hR
   obtain rfl : q = none := hR
   have kq2 : wr.cell? ⟨g, 2, none⟩ = some (.pointer none) := blk_cell hg 2
   have HE := am (show semisOf l0 = S by rw [hS, List.take_of_length_le (by omega)])
   clear hS hO ht hg hin hlast HLS e0
   go_wp2_with fail
   go_ret
   exact ⟨_, rfl, by rw [HE.out]; exact HO.out, HB.out⟩
def impl_MelodySemis.f (n : Nat) (l0 : List S49) : Option (List Int) := (impl_MelodyValid.f n l0).bind fun ok => if ok = true ∧ 0 < l0.length then some (semisOf l0) else none
theorem impl_MelodySemis.mono : ∀ a0 n, LeO (impl_MelodySemis.f n a0) (impl_MelodySemis.f (n + 1) a0) := by
 intro a0 n
 unfold impl_MelodySemis.f
 exact LeO.bind (impl_MelodyValid.mono _ _) (fun _ => LeO.refl _)
set_option maxHeartbeats 1000000 in
set_option maxRecDepth 100000 in
theorem impl_MelodySemis.calls (n : Nat) (A0 : Option Addr) (c0 : Nat) (l0 : List S49) (r : List Int) (w : World) (hr0 : Kd.C k49 w A0 l0.length l0) (hc0 : l0.length ≤ c0) (hTH : TabH w) (h : impl_MelodySemis.f n l0 = some r) :
  Calls Tryz.prog 149 #[.slice A0 l0.length c0] w fun e w' => ∃ v0_ : Value, e = .returned v0_ ∧ Kd.R (Kd.int .i64) 3 w' w.heap.size (fun _ => True) v0_ r ∧ Below w.heap.size w w' := by
 unfold impl_MelodySemis.f at h
 obtain ⟨ok, hv, h⟩ := Option.bind_eq_some_iff.mp h
 by_cases hc : ok = true ∧ 0 < l0.length
 ·rw [if_pos hc] at h
  obtain rfl := Option.some.inj h
  obtain ⟨rfl, hne⟩ := hc
  have HR0 := am hr0
  have HC0 := am hc0
  have HV := am hv
  have HNE := am hne
  have HTH : Aside0 (TabH w) := ⟨hTH⟩
  clear hTH hr0 hc0 hv hne h
  go_enter Tryz.func149, Tryz.ntmps149
  go_wp2_with fail
  refine (semis_any n A0 c0 l0 _ HR0.out HC0.out HV.out HNE.out HTH.out).mono ?_
  rintro e w1 ⟨v, rfl, ho, hb⟩
  have HO := am ho
  have HB := am hb
  clear ho hb
  go_wp2_with fail
  go_ret
  exact ⟨_, rfl, HO.out, HB.out⟩
 ·rw [if_neg hc] at h
  exact absurd h (by simp)


/-! ### impl_MelodySame: function 128 -/
def impl_MelodySame.f (k : Nat) (l0 : List (S49)) (l1 : List (S49)) : Option (Bool) := (impl_MelodyValid.f k l0).bind fun t173 => (if t173 = true then ((impl_MelodyValid.f k l1).bind fun t174 => (if t174 = true then (if (l0.length : Int) = (l1.length : Int) then ((impl_MelodySemis.f k l0).bind fun t175 => ((impl_MelodySemis.f k l1).bind fun t178 => ((impl_equalNumbers.f k t175 t178).bind fun t181 => (if t181 = true then ((impl_MelodySteps.f k l0).bind fun t182 => ((impl_MelodySteps.f k l1).bind fun t185 => ((impl_equalNumbers.f k t182 t185).bind fun t188 => (some t188)))) else (some false))))) else (some false)) else (some false))) else (some false))
theorem impl_MelodySame.mono : ∀ a0 a1 k, LeO (impl_MelodySame.f k a0 a1) (impl_MelodySame.f (k + 1) a0 a1) := by
 intro a0 a1 k
 unfold impl_MelodySame.f
 repeat' first
   | (with_reducible exact impl_MelodySemis.mono _ _)
   | (with_reducible exact impl_MelodySteps.mono _ _)
   | (with_reducible exact impl_MelodyValid.mono _ _)
   | (with_reducible exact impl_equalNumbers.mono _ _ _)
   | (with_reducible exact LeO.refl _)
   | (with_reducible exact LeO.none _)
   | (with_reducible refine LeO.ite ?_ ?_)
   | (with_reducible refine LeO.bind ?_ (fun _ => ?_))
   | exact impl_MelodySemis.mono _ _
   | exact impl_MelodySteps.mono _ _
   | exact impl_MelodyValid.mono _ _
   | exact impl_equalNumbers.mono _ _ _
   | exact LeO.none _
   | refine LeO.ite ?_ ?_
   | refine LeO.bind ?_ (fun _ => ?_)
set_option maxHeartbeats 8000000 in
set_option maxRecDepth 100000 in
theorem impl_MelodySame.calls (k : Nat) (A0 : Option Addr) (c0 : Nat) (l0 : List (S49)) (A1 : Option Addr) (c1 : Nat) (l1 : List (S49)) (r : Bool) (w : World) (hr0 : Kd.C k49 w A0 l0.length l0) (hc0 : l0.length ≤ c0) (hr1 : Kd.C k49 w A1 l1.length l1) (hc1 : l1.length ≤ c1) (hTH : TabH w) (h : impl_MelodySame.f k l0 l1 = some r) :
  Calls Tryz.prog 128 #[.slice A0 l0.length c0, .slice A1 l1.length c1] w fun e w' => e = .returned (.bool r) ∧ Below w.heap.size w w' := by
 have HTH := am hTH
 clear hTH
 have HR0 := am hr0
 have HC0 := am hc0
 clear hr0 hc0
 have HR1 := am hr1
 have HC1 := am hc1
 clear hr1 hc1
 have HB := am (Below.refl w.heap.size w)
 have H : ((impl_MelodyValid.f k l0).bind fun t173 => (if t173 = true then ((impl_MelodyValid.f k l1).bind fun t174 => (if t174 = true then (if (l0.length : Int) = (l1.length : Int) then ((impl_MelodySemis.f k l0).bind fun t175 => ((impl_MelodySemis.f k l1).bind fun t178 => ((impl_equalNumbers.f k t175 t178).bind fun t181 => (if t181 = true then ((impl_MelodySteps.f k l0).bind fun t182 => ((impl_MelodySteps.f k l1).bind fun t185 => ((impl_equalNumbers.f k t182 t185).bind fun t188 => (some t188)))) else (some false))))) else (some false)) else (some false))) else (some false))) = some r := h
 clear h
 replace H := Option.bind_eq_some_iff.mp H
 obtain ⟨t173, A30, H⟩ := H
 replace H : (if t173 = true then ((impl_MelodyValid.f k l1).bind fun t174 => (if t174 = true then (if (l0.length : Int) = (l1.length : Int) then ((impl_MelodySemis.f k l0).bind fun t175 => ((impl_MelodySemis.f k l1).bind fun t178 => ((impl_equalNumbers.f k t175 t178).bind fun t181 => (if t181 = true then ((impl_MelodySteps.f k l0).bind fun t182 => ((impl_MelodySteps.f k l1).bind fun t185 => ((impl_equalNumbers.f k t182 t185).bind fun t188 => (some t188)))) else (some false))))) else (some false)) else (some false))) else (some false)) = some r := H
 have A3 := am A30
 clear A30
 by_cases c4 : t173 = true
 ·subst c4
  have H1 : ((impl_MelodyValid.f k l1).bind fun t174 => (if t174 = true then (if (l0.length : Int) = (l1.length : Int) then ((impl_MelodySemis.f k l0).bind fun t175 => ((impl_MelodySemis.f k l1).bind fun t178 => ((impl_equalNumbers.f k t175 t178).bind fun t181 => (if t181 = true then ((impl_MelodySteps.f k l0).bind fun t182 => ((impl_MelodySteps.f k l1).bind fun t185 => ((impl_equalNumbers.f k t182 t185).bind fun t188 => (some t188)))) else (some false))))) else (some false)) else (some false))) = some r := by rw [if_pos rfl] at H; exact H
  clear H
  have H := H1
  clear H1
  replace H := Option.bind_eq_some_iff.mp H
  obtain ⟨t174, A50, H⟩ := H
  replace H : (if t174 = true then (if (l0.length : Int) = (l1.length : Int) then ((impl_MelodySemis.f k l0).bind fun t175 => ((impl_MelodySemis.f k l1).bind fun t178 => ((impl_equalNumbers.f k t175 t178).bind fun t181 => (if t181 = true then ((impl_MelodySteps.f k l0).bind fun t182 => ((impl_MelodySteps.f k l1).bind fun t185 => ((impl_equalNumbers.f k t182 t185).bind fun t188 => (some t188)))) else (some false))))) else (some false)) else (some false)) = some r := H
  have A5 := am A50
  clear A50
  by_cases c6 : t174 = true
  ·subst c6
   have H1 : (if (l0.length : Int) = (l1.length : Int) then ((impl_MelodySemis.f k l0).bind fun t175 => ((impl_MelodySemis.f k l1).bind fun t178 => ((impl_equalNumbers.f k t175 t178).bind fun t181 => (if t181 = true then ((impl_MelodySteps.f k l0).bind fun t182 => ((impl_MelodySteps.f k l1).bind fun t185 => ((impl_equalNumbers.f k t182 t185).bind fun t188 => (some t188)))) else (some false))))) else (some false)) = some r := by rw [if_pos rfl] at H; exact H
   clear H
   have H := H1
   clear H1
   by_cases c7 : (l0.length : Int) = (l1.length : Int)
   ·rw [if_pos c7] at H
    have c7b0 : ((l0.length : Int) == (l1.length : Int)) = true := beq_iff_eq.mpr c7
    have c7b1 : ((l0.length : Int) != (l1.length : Int)) = false := bne_eq_false_iff_eq.mpr c7
    have c7b2 : (l0.length == l1.length) = true := by first | simpa using c7 | (simp at c7 ⊢; omega)
    clear c7
    replace H := Option.bind_eq_some_iff.mp H
    obtain ⟨t175, A80, H⟩ := H
    replace H : ((impl_MelodySemis.f k l1).bind fun t178 => ((impl_equalNumbers.f k t175 t178).bind fun t181 => (if t181 = true then ((impl_MelodySteps.f k l0).bind fun t182 => ((impl_MelodySteps.f k l1).bind fun t185 => ((impl_equalNumbers.f k t182 t185).bind fun t188 => (some t188)))) else (some false)))) = some r := H
    have A8 := am A80
    clear A80
    replace H := Option.bind_eq_some_iff.mp H
    obtain ⟨t178, A90, H⟩ := H
    replace H : ((impl_equalNumbers.f k t175 t178).bind fun t181 => (if t181 = true then ((impl_MelodySteps.f k l0).bind fun t182 => ((impl_MelodySteps.f k l1).bind fun t185 => ((impl_equalNumbers.f k t182 t185).bind fun t188 => (some t188)))) else (some false))) = some r := H
    have A9 := am A90
    clear A90
    replace H := Option.bind_eq_some_iff.mp H
    obtain ⟨t181, A100, H⟩ := H
    replace H : (if t181 = true then ((impl_MelodySteps.f k l0).bind fun t182 => ((impl_MelodySteps.f k l1).bind fun t185 => ((impl_equalNumbers.f k t182 t185).bind fun t188 => (some t188)))) else (some false)) = some r := H
    have A10 := am A100
    clear A100
    by_cases c11 : t181 = true
    ·subst c11
     have H1 : ((impl_MelodySteps.f k l0).bind fun t182 => ((impl_MelodySteps.f k l1).bind fun t185 => ((impl_equalNumbers.f k t182 t185).bind fun t188 => (some t188)))) = some r := by rw [if_pos rfl] at H; exact H
     clear H
     have H := H1
     clear H1
     replace H := Option.bind_eq_some_iff.mp H
     obtain ⟨t182, A120, H⟩ := H
     replace H : ((impl_MelodySteps.f k l1).bind fun t185 => ((impl_equalNumbers.f k t182 t185).bind fun t188 => (some t188))) = some r := H
     have A12 := am A120
     clear A120
     replace H := Option.bind_eq_some_iff.mp H
     obtain ⟨t185, A130, H⟩ := H
     replace H : ((impl_equalNumbers.f k t182 t185).bind fun t188 => (some t188)) = some r := H
     have A13 := am A130
     clear A130
     replace H := Option.bind_eq_some_iff.mp H
     obtain ⟨t188, A140, H⟩ := H
     replace H : (some t188) = some r := H
     have A14 := am A140
     clear A140
     obtain rfl := Option.some.inj H
     go_enter Tryz.func128, Tryz.ntmps128
     go_wp2_with (first | ((with_reducible refine gate_callee (f := 20) rfl ?_); refine goesL_ (some 6) rfl rfl Tryz.func20 (by kernel_rfl) rfl #[.slice A0 l0.length c0] rfl (by (try simp only [List.map_toArray, List.map_cons, List.map_nil]); first | done | rfl | (simp only [List.length_drop, List.length_take]; rfl)) ?_; (with_reducible refine (impl_MelodyValid.calls k _ _ l0 true _ ?side1 ?side2 A3.out).mono ?_); (case side1 => exact cu HR0.out); (case side2 => exact HC0.out); rintro e w15 ⟨rfl, hb⟩; refine ⟨_, rfl, ?_⟩; have n0_ := am (below_step (bu HB.out) hb); clear HB; have HB := n0_; clear n0_; (try clear hb); (try clear hb2); (try clear hk); (try clear hi)) | (go_at_call 20; (with_reducible refine (impl_MelodyValid.calls k _ _ l1 true _ ?side1 ?side2 A5.out).mono ?_); (case side1 => repeat (first | exact (Kd.C_below HR1.out HB.out) | (with_reducible refine Kd.C_alloc ?_ _) | (with_reducible refine Kd.C_drewN ?_ _) | (with_reducible refine Kd.C_drew ?_))); (case side2 => exact HC1.out); rintro e w16 ⟨rfl, hb⟩; have n0_ := am (below_step (bu HB.out) hb); clear HB; have HB := n0_; clear n0_; (try clear hb); (try clear hb2); (try clear hk); (try clear hi)) | (go_at_call 149; (with_reducible refine (impl_MelodySemis.calls k _ _ l0 t175 _ ?side1 ?side2 ?side3 A8.out).mono ?_); (case side1 => repeat (first | exact (Kd.C_below HR0.out HB.out) | (with_reducible refine Kd.C_alloc ?_ _) | (with_reducible refine Kd.C_drewN ?_ _) | (with_reducible refine Kd.C_drew ?_))); (case side2 => exact HC0.out); (case side3 => first | exact HTH.out | exact TabAt.below HTH.out (bu HB.out)); rintro e w17 ⟨v176, rfl, ho0, hb⟩; have n0_ := am (Kd.R_lower ho0 (below_size (bu HB.out))); have n1_ := am (below_step (bu HB.out) hb); clear HB; have HO177 := n0_; have HB := n1_; clear n0_ n1_; (try clear hb); (try clear hb2); (try clear hk); (try clear hi); (try clear ho0)) | (go_at_call 149; (with_reducible refine (impl_MelodySemis.calls k _ _ l1 t178 _ ?side1 ?side2 ?side3 A9.out).mono ?_); (case side1 => repeat (first | exact (Kd.C_below HR1.out HB.out) | (with_reducible refine Kd.C_alloc ?_ _) | (with_reducible refine Kd.C_drewN ?_ _) | (with_reducible refine Kd.C_drew ?_))); (case side2 => exact HC1.out); (case side3 => first | exact HTH.out | exact TabAt.below HTH.out (bu HB.out)); rintro e w18 ⟨v179, rfl, ho0, hb⟩; have n0_ := am (Kd.R_elder' (ru HO177.out) (Kd.R_base ho0) hb); have n1_ := am (Kd.R_lower (Kd.R_new' ho0 (Kd.R_lt (ru HO177.out))) (below_size (bu HB.out))); have n2_ := am (below_step (bu HB.out) hb); clear HO177; clear HB; have HO177 := n0_; have HO180 := n1_; have HB := n2_; clear n0_ n1_ n2_; (try clear hb); (try clear hb2); (try clear hk); (try clear hi); (try clear ho0); obtain ⟨Ao19, co19, eo19⟩ := Kd.R_slice HO177.out; subst eo19; obtain ⟨Ao20, co20, eo20⟩ := Kd.R_slice HO180.out; subst eo20) | (go_at_call 148; (with_reducible refine (impl_equalNumbers.calls k _ _ t175 _ _ t178 true _ ?side1 ?side2 ?side3 ?side4 A10.out).mono ?_); (case side1 => exact cu (Kd.R_reads' HO177.out).2.2); (case side2 => exact (Kd.R_reads' HO177.out).2.1); (case side3 => exact cu (Kd.R_reads' HO180.out).2.2); (case side4 => exact (Kd.R_reads' HO180.out).2.1); rintro e w' ⟨rfl, ⟨nd, rfl⟩⟩) | (go_at_call 93; (with_reducible refine (impl_MelodySteps.calls k _ _ l0 t182 _ ?side1 ?side2 A12.out).mono ?_); (case side1 => repeat (first | exact (Kd.C_below HR0.out (bu HB.out)) | (with_reducible refine Kd.C_alloc ?_ _) | (with_reducible refine Kd.C_drewN ?_ _) | (with_reducible refine Kd.C_drew ?_))); (case side2 => exact HC0.out); rintro e w21 ⟨v183, rfl, ho0, hb⟩; have n0_ := am (Kd.R_elder' (ru HO177.out) (Kd.R_base ho0) hb); have n1_ := am (Kd.R_elder' (ru HO180.out) (Kd.R_base ho0) hb); have n2_ := am (Kd.R_lower (Kd.R_new' (Kd.R_new' ho0 (Kd.R_lt (ru HO177.out))) (Kd.R_lt (ru HO180.out))) (below_size (bu HB.out))); have n3_ := am (below_step (bu HB.out) hb); clear HO177; clear HO180; clear HB; have HO177 := n0_; have HO180 := n1_; have HO184 := n2_; have HB := n3_; clear n0_ n1_ n2_ n3_; (try clear hb); (try clear hb2); (try clear hk); (try clear hi); (try clear ho0)) | (go_at_call 93; (with_reducible refine (impl_MelodySteps.calls k _ _ l1 t185 _ ?side1 ?side2 A13.out).mono ?_); (case side1 => repeat (first | exact (Kd.C_below HR1.out HB.out) | (with_reducible refine Kd.C_alloc ?_ _) | (with_reducible refine Kd.C_drewN ?_ _) | (with_reducible refine Kd.C_drew ?_))); (case side2 => exact HC1.out); rintro e w22 ⟨v186, rfl, ho0, hb⟩; have n0_ := am (Kd.R_elder' (ru HO177.out) (Kd.R_base ho0) hb); have n1_ := am (Kd.R_elder' (ru HO180.out) (Kd.R_base ho0) hb); have n2_ := am (Kd.R_elder' (ru HO184.out) (Kd.R_base ho0) hb); have n3_ := am (Kd.R_lower (Kd.R_new' (Kd.R_new' (Kd.R_new' ho0 (Kd.R_lt (ru HO177.out))) (Kd.R_lt (ru HO180.out))) (Kd.R_lt (ru HO184.out))) (below_size (bu HB.out))); have n4_ := am (below_step (bu HB.out) hb); clear HO177; clear HO180; clear HO184; clear HB; have HO177 := n0_; have HO180 := n1_; have HO184 := n2_; have HO187 := n3_; have HB := n4_; clear n0_ n1_ n2_ n3_ n4_; (try clear hb); (try clear hb2); (try clear hk); (try clear hi); (try clear ho0); obtain ⟨Ao23, co23, eo23⟩ := Kd.R_slice HO184.out; subst eo23; obtain ⟨Ao24, co24, eo24⟩ := Kd.R_slice HO187.out; subst eo24) | (go_at_call 148; (with_reducible refine (impl_equalNumbers.calls k _ _ t182 _ _ t185 t188 _ ?side1 ?side2 ?side3 ?side4 A14.out).mono ?_); (case side1 => exact cu (Kd.R_reads' HO184.out).2.2); (case side2 => exact (Kd.R_reads' HO184.out).2.1); (case side3 => exact cu (Kd.R_reads' HO187.out).2.2); (case side4 => exact (Kd.R_reads' HO187.out).2.1); rintro e w' ⟨rfl, ⟨nd, rfl⟩⟩))
     go_ret
     exact ⟨by first | rfl | (simp [errW_none, errW_some] <;> rfl) | (simp [*, errW_none, errW_some] <;> rfl), bu HB.out⟩
    ·replace c11 := Bool.eq_false_iff.mpr c11
     subst c11
     have H1 : (some false) = some r := by rw [if_neg (show ¬ (false = true) by decide)] at H; exact H
     clear H
     have H := H1
     clear H1
     obtain rfl := Option.some.inj H
     go_enter Tryz.func128, Tryz.ntmps128
     go_wp2_with (first | ((with_reducible refine gate_callee (f := 20) rfl ?_); refine goesL_ (some 6) rfl rfl Tryz.func20 (by kernel_rfl) rfl #[.slice A0 l0.length c0] rfl (by (try simp only [List.map_toArray, List.map_cons, List.map_nil]); first | done | rfl | (simp only [List.length_drop, List.length_take]; rfl)) ?_; (with_reducible refine (impl_MelodyValid.calls k _ _ l0 true _ ?side1 ?side2 A3.out).mono ?_); (case side1 => exact cu HR0.out); (case side2 => exact HC0.out); rintro e w25 ⟨rfl, hb⟩; refine ⟨_, rfl, ?_⟩; have n0_ := am (below_step (bu HB.out) hb); clear HB; have HB := n0_; clear n0_; (try clear hb); (try clear hb2); (try clear hk); (try clear hi)) | (go_at_call 20; (with_reducible refine (impl_MelodyValid.calls k _ _ l1 true _ ?side1 ?side2 A5.out).mono ?_); (case side1 => repeat (first | exact (Kd.C_below HR1.out HB.out) | (with_reducible refine Kd.C_alloc ?_ _) | (with_reducible refine Kd.C_drewN ?_ _) | (with_reducible refine Kd.C_drew ?_))); (case side2 => exact HC1.out); rintro e w26 ⟨rfl, hb⟩; have n0_ := am (below_step (bu HB.out) hb); clear HB; have HB := n0_; clear n0_; (try clear hb); (try clear hb2); (try clear hk); (try clear hi)) | (go_at_call 149; (with_reducible refine (impl_MelodySemis.calls k _ _ l0 t175 _ ?side1 ?side2 ?side3 A8.out).mono ?_); (case side1 => repeat (first | exact (Kd.C_below HR0.out HB.out) | (with_reducible refine Kd.C_alloc ?_ _) | (with_reducible refine Kd.C_drewN ?_ _) | (with_reducible refine Kd.C_drew ?_))); (case side2 => exact HC0.out); (case side3 => first | exact HTH.out | exact TabAt.below HTH.out (bu HB.out)); rintro e w27 ⟨v176, rfl, ho0, hb⟩; have n0_ := am (Kd.R_lower ho0 (below_size (bu HB.out))); have n1_ := am (below_step (bu HB.out) hb); clear HB; have HO177 := n0_; have HB := n1_; clear n0_ n1_; (try clear hb); (try clear hb2); (try clear hk); (try clear hi); (try clear ho0)) | (go_at_call 149; (with_reducible refine (impl_MelodySemis.calls k _ _ l1 t178 _ ?side1 ?side2 ?side3 A9.out).mono ?_); (case side1 => repeat (first | exact (Kd.C_below HR1.out HB.out) | (with_reducible refine Kd.C_alloc ?_ _) | (with_reducible refine Kd.C_drewN ?_ _) | (with_reducible refine Kd.C_drew ?_))); (case side2 => exact HC1.out); (case side3 => first | exact HTH.out | exact TabAt.below HTH.out (bu HB.out)); rintro e w28 ⟨v179, rfl, ho0, hb⟩; have n0_ := am (Kd.R_elder' (ru HO177.out) (Kd.R_base ho0) hb); have n1_ := am (Kd.R_lower (Kd.R_new' ho0 (Kd.R_lt (ru HO177.out))) (below_size (bu HB.out))); have n2_ := am (below_step (bu HB.out) hb); clear HO177; clear HB; have HO177 := n0_; have HO180 := n1_; have HB := n2_; clear n0_ n1_ n2_; (try clear hb); (try clear hb2); (try clear hk); (try clear hi); (try clear ho0); obtain ⟨Ao29, co29, eo29⟩ := Kd.R_slice HO177.out; subst eo29; obtain ⟨Ao30, co30, eo30⟩ := Kd.R_slice HO180.out; subst eo30) | (go_at_call 148; (with_reducible refine (impl_equalNumbers.calls k _ _ t175 _ _ t178 false _ ?side1 ?side2 ?side3 ?side4 A10.out).mono ?_); (case side1 => exact cu (Kd.R_reads' HO177.out).2.2); (case side2 => exact (Kd.R_reads' HO177.out).2.1); (case side3 => exact cu (Kd.R_reads' HO180.out).2.2); (case side4 => exact (Kd.R_reads' HO180.out).2.1); rintro e w' ⟨rfl, ⟨nd, rfl⟩⟩))
     go_ret
     exact ⟨by first | rfl | (simp [errW_none, errW_some] <;> rfl) | (simp [*, errW_none, errW_some] <;> rfl), bu HB.out⟩
   ·rw [if_neg c7] at H
    have c7b0 : ((l0.length : Int) == (l1.length : Int)) = false := beq_eq_false_iff_ne.mpr c7
    have c7b1 : ((l0.length : Int) != (l1.length : Int)) = true := bne_iff_ne.mpr c7
    have c7b2 : (l0.length == l1.length) = false := by first | simpa using c7 | (simp at c7 ⊢; omega)
    obtain rfl := Option.some.inj H
    go_enter Tryz.func128, Tryz.ntmps128
    go_wp2_with (first | ((with_reducible refine gate_callee (f := 20) rfl ?_); refine goesL_ (some 6) rfl rfl Tryz.func20 (by kernel_rfl) rfl #[.slice A0 l0.length c0] rfl (by (try simp only [List.map_toArray, List.map_cons, List.map_nil]); first | done | rfl | (simp only [List.length_drop, List.length_take]; rfl)) ?_; (with_reducible refine (impl_MelodyValid.calls k _ _ l0 true _ ?side1 ?side2 A3.out).mono ?_); (case side1 => exact cu HR0.out); (case side2 => exact HC0.out); rintro e w31 ⟨rfl, hb⟩; refine ⟨_, rfl, ?_⟩; have n0_ := am (below_step (bu HB.out) hb); clear HB; have HB := n0_; clear n0_; (try clear hb); (try clear hb2); (try clear hk); (try clear hi)) | (go_at_call 20; (with_reducible refine (impl_MelodyValid.calls k _ _ l1 true _ ?side1 ?side2 A5.out).mono ?_); (case side1 => repeat (first | exact (Kd.C_below HR1.out HB.out) | (with_reducible refine Kd.C_alloc ?_ _) | (with_reducible refine Kd.C_drewN ?_ _) | (with_reducible refine Kd.C_drew ?_))); (case side2 => exact HC1.out); rintro e w32 ⟨rfl, hb⟩; have n0_ := am (below_step (bu HB.out) hb); clear HB; have HB := n0_; clear n0_; (try clear hb); (try clear hb2); (try clear hk); (try clear hi)))
    go_ret
    exact ⟨by first | rfl | (simp [errW_none, errW_some] <;> rfl) | (simp [*, errW_none, errW_some] <;> rfl), bu HB.out⟩
  ·replace c6 := Bool.eq_false_iff.mpr c6
   subst c6
   have H1 : (some false) = some r := by rw [if_neg (show ¬ (false = true) by decide)] at H; exact H
   clear H
   have H := H1
   clear H1
   obtain rfl := Option.some.inj H
   go_enter Tryz.func128, Tryz.ntmps128
   go_wp2_with (first | ((with_reducible refine gate_callee (f := 20) rfl ?_); refine goesL_ (some 6) rfl rfl Tryz.func20 (by kernel_rfl) rfl #[.slice A0 l0.length c0] rfl (by (try simp only [List.map_toArray, List.map_cons, List.map_nil]); first | done | rfl | (simp only [List.length_drop, List.length_take]; rfl)) ?_; (with_reducible refine (impl_MelodyValid.calls k _ _ l0 true _ ?side1 ?side2 A3.out).mono ?_); (case side1 => exact cu HR0.out); (case side2 => exact HC0.out); rintro e w33 ⟨rfl, hb⟩; refine ⟨_, rfl, ?_⟩; have n0_ := am (below_step (bu HB.out) hb); clear HB; have HB := n0_; clear n0_; (try clear hb); (try clear hb2); (try clear hk); (try clear hi)) | (go_at_call 20; (with_reducible refine (impl_MelodyValid.calls k _ _ l1 false _ ?side1 ?side2 A5.out).mono ?_); (case side1 => repeat (first | exact (Kd.C_below HR1.out HB.out) | (with_reducible refine Kd.C_alloc ?_ _) | (with_reducible refine Kd.C_drewN ?_ _) | (with_reducible refine Kd.C_drew ?_))); (case side2 => exact HC1.out); rintro e w34 ⟨rfl, hb⟩; have n0_ := am (below_step (bu HB.out) hb); clear HB; have HB := n0_; clear n0_; (try clear hb); (try clear hb2); (try clear hk); (try clear hi)))
   go_ret
   exact ⟨by first | rfl | (simp [errW_none, errW_some] <;> rfl) | (simp [*, errW_none, errW_some] <;> rfl), bu HB.out⟩
 ·replace c4 := Bool.eq_false_iff.mpr c4
  subst c4
  have H1 : (some false) = some r := by rw [if_neg (show ¬ (false = true) by decide)] at H; exact H
  clear H
  have H := H1
  clear H1
  obtain rfl := Option.some.inj H
  go_enter Tryz.func128, Tryz.ntmps128
  go_wp2_with (first | ((with_reducible refine gate_callee (f := 20) rfl ?_); refine goesL_ (some 6) rfl rfl Tryz.func20 (by kernel_rfl) rfl #[.slice A0 l0.length c0] rfl (by (try simp only [List.map_toArray, List.map_cons, List.map_nil]); first | done | rfl | (simp only [List.length_drop, List.length_take]; rfl)) ?_; (with_reducible refine (impl_MelodyValid.calls k _ _ l0 false _ ?side1 ?side2 A3.out).mono ?_); (case side1 => exact cu HR0.out); (case side2 => exact HC0.out); rintro e w35 ⟨rfl, hb⟩; refine ⟨_, rfl, ?_⟩; have n0_ := am (below_step (bu HB.out) hb); clear HB; have HB := n0_; clear n0_; (try clear hb); (try clear hb2); (try clear hk); (try clear hi)))
  go_ret
  exact ⟨by first | rfl | (simp [errW_none, errW_some] <;> rfl) | (simp [*, errW_none, errW_some] <;> rfl), bu HB.out⟩

end Go.Proofs.YtkdlfnakbilhjaaGreatDoor.XK
