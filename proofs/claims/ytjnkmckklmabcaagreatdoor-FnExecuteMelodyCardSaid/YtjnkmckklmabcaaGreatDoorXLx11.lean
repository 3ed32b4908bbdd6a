-- Made by this session's gprint.py out of the translation. Not trusted: Lean checks it. -- SLIM -- SQUEEZED
import Derived.Test.YtjnkmckklmabcaaGreatDoorXLx0
import Derived.Test.YtjnkmckklmabcaaGreatDoorXLx10
namespace Go.Proofs.YtjnkmckklmabcaaGreatDoor.XL
open Go.RowKit Go.Proofs.YtjnkmckklmabcaaGreatDoorW.PrintWords Go.Proofs.YtjnkmckklmabcaaGreatDoorW.PrintLast Go.Proofs.YtjnkmckklmabcaaGreatDoorW.PrintMore
attribute [local go_sem] max2_int min2_int max_two min_two max_three min_three max_four min_four   -- for this text's walks alone
set_option maxHeartbeats 8000000
set_option maxRecDepth 100000
set_option linter.unusedVariables false
set_option linter.unusedSimpArgs false

/-! ### spec_l2Fewest: function 72 -/
mutual
def spec_l2Fewest.l0 : Nat → List (S74) → Int → List (List Int) → Int → Option ((List (List Int)))
 | 0, _, _, _, _ => none
 | k + 1, x0, x3, x4, x5 => if x5 ≥ 0 then (if 21 ≤ 35184372088832 then (if 0 ≤ x5 then (if x5 < (x4.length : Int) then (spec_l2Fewest.l1 k x0 x3 (x4.set (x5 : Int).toNat (List.replicate 21 0)) x5 0) else (none)) else (none)) else (none)) else (some x4)
def spec_l2Fewest.l1 : Nat → List (S74) → Int → List (List Int) → Int → Int → Option ((List (List Int)))
 | 0, _, _, _, _, _ => none
 | k + 1, x0, x3, x4, x5, x6 => if x6 ≤ 20 then (if 0 ≤ x5 then (if x5 < (x4.length : Int) then (if 0 ≤ x6 then (if x6 < ((rd_L8 x4 x5).length : Int) then ((some (x4.set (x5 : Int).toNat ((rd_L8 x4 x5).set (x6 : Int).toNat (-1)) : List (List Int))).bind fun y215 => (if x5 < (x0.length : Int) then ((spec_HexSyllable.f k x6 ((rd_T74 x0 x5).f0) ((rd_T74 x0 x5).f1)).bind fun t217 => (if t217 < 0 then (spec_l2Fewest.l1 k x0 x3 y215 x5 (wrap64 (x6 + 1))) else (if x5 = (wrap64 (x3 - 1)) then (if x6 < ((rd_L8 y215 x5).length : Int) then (spec_l2Fewest.l1 k x0 x3 (y215.set (x5 : Int).toNat ((rd_L8 y215 x5).set (x6 : Int).toNat 0)) x5 (wrap64 (x6 + 1))) else (none)) else (spec_l2Fewest.l2 k x0 x3 y215 x5 x6 0)))) else (none))) else (none)) else (none)) else (none)) else (none)) else (spec_l2Fewest.l0 k x0 x3 x4 (wrap64 (x5 - 1)))
def spec_l2Fewest.l2 : Nat → List (S74) → Int → List (List Int) → Int → Int → Int → Option ((List (List Int)))
 | 0, _, _, _, _, _, _ => none
 | k + 1, x0, x3, x4, x5, x6, x7 => if x7 ≤ 20 then (if 0 ≤ (wrap64 (x5 + 1)) then (if (wrap64 (x5 + 1)) < (x4.length : Int) then (if 0 ≤ x7 then (if x7 < ((rd_L8 x4 (wrap64 (x5 + 1))).length : Int) then (if (rd (rd_L8 x4 (wrap64 (x5 + 1))) x7) < 0 then (spec_l2Fewest.l2 k x0 x3 x4 x5 x6 (wrap64 (x7 + 1))) else (if x7 = x6 then (if 0 ≤ x5 then (if x5 < (x4.length : Int) then (if 0 ≤ x6 then (if x6 < ((rd_L8 x4 x5).length : Int) then (if (rd (rd_L8 x4 x5) x6) < 0 then (spec_l2Fewest.l2 k x0 x3 (x4.set (x5 : Int).toNat ((rd_L8 x4 x5).set (x6 : Int).toNat (rd (rd_L8 x4 (wrap64 (x5 + 1))) x7))) x5 x6 (wrap64 (x7 + 1))) else (if (rd (rd_L8 x4 (wrap64 (x5 + 1))) x7) < (rd (rd_L8 x4 x5) x6) then (spec_l2Fewest.l2 k x0 x3 (x4.set (x5 : Int).toNat ((rd_L8 x4 x5).set (x6 : Int).toNat (rd (rd_L8 x4 (wrap64 (x5 + 1))) x7))) x5 x6 (wrap64 (x7 + 1))) else (spec_l2Fewest.l2 k x0 x3 x4 x5 x6 (wrap64 (x7 + 1))))) else (none)) else (none)) else (none)) else (none)) else (if 0 ≤ x5 then (if x5 < (x4.length : Int) then (if 0 ≤ x6 then (if x6 < ((rd_L8 x4 x5).length : Int) then (if (rd (rd_L8 x4 x5) x6) < 0 then (spec_l2Fewest.l2 k x0 x3 (x4.set (x5 : Int).toNat ((rd_L8 x4 x5).set (x6 : Int).toNat (wrap64 ((rd (rd_L8 x4 (wrap64 (x5 + 1))) x7) + 1)))) x5 x6 (wrap64 (x7 + 1))) else (if (wrap64 ((rd (rd_L8 x4 (wrap64 (x5 + 1))) x7) + 1)) < (rd (rd_L8 x4 x5) x6) then (spec_l2Fewest.l2 k x0 x3 (x4.set (x5 : Int).toNat ((rd_L8 x4 x5).set (x6 : Int).toNat (wrap64 ((rd (rd_L8 x4 (wrap64 (x5 + 1))) x7) + 1)))) x5 x6 (wrap64 (x7 + 1))) else (spec_l2Fewest.l2 k x0 x3 x4 x5 x6 (wrap64 (x7 + 1))))) else (none)) else (none)) else (none)) else (none)))) else (none)) else (none)) else (none)) else (none)) else (spec_l2Fewest.l1 k x0 x3 x4 x5 (wrap64 (x6 + 1)))
end
def spec_l2Fewest.f (k : Nat) (l0 : List (S74)) : Option ((List (List Int))) := if 0 ≤ (l0.length : Int) then (if ((l0.length : Int) : Int).toNat ≤ 11728124029610 then (spec_l2Fewest.l0 k l0 (l0.length : Int) (List.replicate ((l0.length : Int) : Int).toNat []) (wrap64 ((l0.length : Int) - 1))) else (none)) else (none)
theorem spec_l2Fewest.calls (k : Nat) (A0 : Option Addr) (c0 : Nat) (l0 : List (S74)) (r : List (List Int)) (w : World) (hr0 : Kd.C k74 w A0 l0.length l0) (hc0 : l0.length ≤ c0) (h : spec_l2Fewest.f k l0 = some r) :
  Calls Tryz.prog 72 #[.slice A0 l0.length c0] w fun e w' => ∃ v0_ : Value, e = .returned (v0_) ∧ Kd.S (Kd.slice 3 (Kd.int .i64)) 28 w' w.heap.size (fun _ => True) v0_ r ∧ Below w.heap.size w w' := by
 have hu74 := Tryz.underlying74
 have HR0 := am hr0
 have HC0 := am hc0
 clear hr0 hc0
 have HB := am (Below.refl w.heap.size w)
 have H : (if 0 ≤ (l0.length : Int) then (if ((l0.length : Int) : Int).toNat ≤ 11728124029610 then (spec_l2Fewest.l0 k l0 (l0.length : Int) (List.replicate ((l0.length : Int) : Int).toNat []) (wrap64 ((l0.length : Int) - 1))) else (none)) else (none)) = some r := h
 clear h
 by_cases c2 : 0 ≤ (l0.length : Int)
 ·rw [if_pos c2] at H
  have c2b0 := eq_true c2
  have c2b1 : decide (0 ≤ (l0.length : Int)) = true := decide_eq_true c2
  clear c2
  by_cases c3 : ((l0.length : Int) : Int).toNat ≤ 11728124029610
  case neg => rw [if_neg c3] at H; exact absurd H (by simp)
  rw [if_pos c3] at H
  have c3b0 := eq_true c3
  have c3b1 : decide (((l0.length : Int) : Int).toNat ≤ 11728124029610) = true := decide_eq_true c3
  clear c3
  obtain ⟨y205, hy205⟩ : ∃ y_ : List (List Int), y_ = (List.replicate ((l0.length : Int) : Int).toNat []) := ⟨_, rfl⟩
  replace H : (spec_l2Fewest.l0 k l0 (l0.length : Int) y205 (wrap64 ((l0.length : Int) - 1))) = some r := by first | (rw [hy205]; with_reducible exact H) | (have H2_ := (Option.bind_some _ _).symm.trans H; rw [hy205]; with_reducible exact H2_) | (have H2_ := (Option.bind_some _ _).symm.trans H; with_reducible exact H2_) | with_reducible exact H | (rw [hy205]; exact H) | exact H
  have Ny205 := am hy205
  clear hy205
  have H' := am H
  clear H
  go_enter Tryz.func72, Tryz.ntmps72
  go_wp2_with ((with_reducible refine gate_dst (N := 12) rfl ?_); refine Kd.S_make (Kd.slice 3 (Kd.int .i64)) _ 28 rfl (N := 12) rfl 93 _ _ rfl (l0.length : Int) rfl rfl Tryz.underlying93 (.slice none 0 0) 24 info28 rfl (by decide) (by omega) [] (ok := fun _ => True) (okp := fun _ => True) ⟨_, rfl, Kd.R_nil _ _ _ _ _⟩ (fun _ hk => hk) trivial (od) (Nat.le_trans (Nat.mul_le_mul_right _ (od : (l0.length : Int).toNat ≤ 11728124029610)) (by omega)) (Below.refl _ _) (Nat.le_refl _) ?_; intro v206 w4 ho5 hb hg_ hnew_; clear hg_ hnew_; (first | rw [← Ny205.out] at ho5 | (simp only [Int.reduceToNat] at ho5; rw [← Ny205.out] at ho5)); have n0_ := am (Kd.S_lower ho5 (below_size (bu HB.out))); have n1_ := am (below_step (bu HB.out) hb); clear HB; have HO207 := n0_; have HB := n1_; clear n0_ n1_; clear hb ho5)
  go_loopg [5] k (fun kq v5 w' => ∃ (x4_1 : List (List Int)) (x5_1 : Int), v5 = .int .i64 x5_1 ∧ Aside0 (spec_l2Fewest.l0 kq l0 (l0.length : Int) x4_1 x5_1 = some r) ∧ Aside0 (kq ≤ k) ∧ Aside0 (Kd.S (Kd.slice 3 (Kd.int .i64)) 28 w' w.heap.size (fun _ => True) v206 x4_1) ∧ Aside0 (Below w.heap.size w w'))
  case atStart => exact ⟨(y205), (wrap64 ((l0.length : Int) - 1)), (by first | rfl | simp | simp [*]), H', ⟨Nat.le_refl _⟩, ⟨by (with_reducible repeat (first | apply Kd.S_alloc | apply Kd.S_drewN | apply Kd.S_drew)); exact HO207.out⟩, ⟨bu HB.out⟩⟩
  case round =>
   clear H'
   (try clear c2); (try clear c2b0); (try clear c2b1); (try clear p2); (try clear c3); (try clear c3b0); (try clear c3b1)
   obtain ⟨x4_1, x5_1, rfl, HA, HK1, HO_4, HB⟩ := hrel
   cases gk with
   | zero => exact absurd HA.out (by simp [spec_l2Fewest.l0])
   | succ k1 =>
    have H := HA.out
    clear HA
    simp only [spec_l2Fewest.l0] at H
    by_cases c6 : x5_1 ≥ 0
    ·rw [if_pos c6] at H
     have c6b0 : decide (0 ≤ x5_1) = true := decide_eq_true c6
     clear c6
     by_cases c7 : 21 ≤ 35184372088832
     case neg => rw [if_neg c7] at H; exact absurd H (by simp)
     rw [if_pos c7] at H
     have c7b0 := eq_true c7
     have c7b1 : decide (21 ≤ 35184372088832) = true := decide_eq_true c7
     clear c7
     obtain ⟨y208, hy208⟩ : ∃ y_ : List Int, y_ = (List.replicate 21 0) := ⟨_, rfl⟩
     replace H : (if 0 ≤ x5_1 then (if x5_1 < (x4_1.length : Int) then (spec_l2Fewest.l1 k1 l0 (l0.length : Int) (x4_1.set (x5_1 : Int).toNat y208) x5_1 0) else (none)) else (none)) = some r := by first | (rw [hy208]; with_reducible exact H) | (have H2_ := (Option.bind_some _ _).symm.trans H; rw [hy208]; with_reducible exact H2_) | (have H2_ := (Option.bind_some _ _).symm.trans H; with_reducible exact H2_) | with_reducible exact H | (rw [hy208]; exact H) | exact H
     have Ny208 := am hy208
     clear hy208
     by_cases c8 : 0 ≤ x5_1
     case neg => rw [if_neg c8] at H; exact absurd H (by simp)
     rw [if_pos c8] at H
     have c8b0 : decide (0 ≤ x5_1) = true := decide_eq_true c8
     clear c8
     by_cases c9 : x5_1 < (x4_1.length : Int)
     case neg => rw [if_neg c9] at H; exact absurd H (by simp)
     rw [if_pos c9] at H
     have c9b0 : decide (x5_1 < (x4_1.length : Int)) = true := decide_eq_true c9
     clear c9
     obtain ⟨y211, hy211⟩ : ∃ y_ : List (List Int), y_ = (x4_1.set (x5_1 : Int).toNat y208) := ⟨_, rfl⟩
     replace H : (spec_l2Fewest.l1 k1 l0 (l0.length : Int) y211 x5_1 0) = some r := by first | (rw [hy211]; with_reducible exact H) | (have H2_ := (Option.bind_some _ _).symm.trans H; rw [hy211]; with_reducible exact H2_) | (have H2_ := (Option.bind_some _ _).symm.trans H; with_reducible exact H2_) | with_reducible exact H | (rw [hy211]; exact H) | exact H
     have Ny211 := am hy211
     clear hy211
     have H' := am H
     clear H
     go_wp2_with (first | ((with_reducible refine gate_dst (N := 21) rfl ?_); refine Kd.R_make (Kd.int .i64) _ 3 rfl (N := 21) rfl 28 _ _ rfl 21 rfl rfl Tryz.underlying28 (.int .i64 0) 8 info3 rfl (by decide) (by omega) 0 (ok := fun _ => True) (okp := fun _ => True) rfl (fun _ hk => hk) trivial (by omega) (by omega) (Below.refl _ _) (Nat.le_refl _) ?_; intro v209 w11 ho12 hb hg_ hnew_; clear hg_ hnew_; (first | rw [← Ny208.out] at ho12 | (simp only [Int.reduceToNat] at ho12; rw [← Ny208.out] at ho12)); have n0_ := am (Kd.S_elder' (by (with_reducible repeat (first | apply Kd.S_alloc | apply Kd.S_drewN | apply Kd.S_drew)); exact HO_4.out) (Kd.R_base ho12) hb); have n1_ := am (Kd.R_lower ho12 (below_size (bu HB.out))); have n2_ := am (below_step (bu HB.out) hb); clear HO_4; clear HB; have HO_4 := n0_; have HO210 := n1_; have HB := n2_; clear n0_ n1_ n2_; clear hb ho12; have p10 : 0 ≤ (x5_1 : Int) := od; have q10 : (x5_1 : Int) < ((x4_1.length : Int) : Int) := od; obtain ⟨go10, co10, eo10, gb10, gl10, cl10, HG10⟩ := Kd.S_form HO_4.out (by omega); (first | cases eo10 | (injection eo10 with ea_ en_ ec_; (first | subst ea_ | (injection ea_ with ea_; subst ea_)); subst ec_; clear en_)); have GB10 := am gb10; have GG10 := am HG10; clear gb10 gl10 HG10; obtain ⟨_, ce10, hcl10, hM10, hcc10, hfr10, _, _⟩ := Kd.S_elem HO_4.out [] (x5_1 : Int) p10 q10; obtain ⟨ve10_0, rfl, ge10_0⟩ := hM10; have hx10_0 := hcc10 0 _ rfl; have hf10_0 := hfr10 0; (try simp only [show ((Kd.slice 3 (Kd.int .i64))).sz = 1 from rfl, Nat.mul_one, Nat.add_zero] at hx10_0); (try simp only [show ((Kd.slice 3 (Kd.int .i64))).sz = 1 from rfl, Nat.mul_one, Nat.add_zero] at hf10_0); (try clear hM10); clear hcl10 hcc10 hfr10; replace p10 := eq_true p10; replace q10 := eq_true q10; have n_ := am (Kd.S_mono (ok' := (fun k_ => some k_ ≠ (v209 : Value).ownBlock)) HO_4.out (fun k_ hk => hk.2)); clear HO_4; have HO_4 := n_; clear n_; have HX13 := am (show Kd.S (Kd.slice 3 (Kd.int .i64)) 28 w11 w.heap.size (fun k_ => ((fun _ => True)) k_ ∧ ¬ ((fun k_ => some k_ = (v209 : Value).ownBlock)) k_) (.slice (some ⟨go10, 0, none⟩) x4_1.length co10) x4_1 from (by (with_reducible repeat (first | apply Kd.S_alloc | apply Kd.S_drewN | apply Kd.S_drew)); exact Kd.S_mono HO_4.out (fun k_ hk => ⟨trivial, fun e_ => hk e_⟩))); obtain ⟨oki13, ce13, hcl13, hM13, hcc13, hfr13, hoki13, hH13⟩ := Kd.S_elem HX13.out [] (x5_1 : Int) (od) (by have h_ : (x5_1 : Int) < ((x4_1.length : Int) : Int) := od; first | exact h_ | (have e_ := (Kd.S_reads' HO_4.out).1; omega) | simpa using h_); obtain ⟨ve13_0, rfl, ge13_0⟩ := hM13; have HP13 := Kd.S_seg hH13 (od) (by have h_ : (x5_1 : Int) < ((x4_1.length : Int) : Int) := od; first | exact h_ | (have e_ := (Kd.S_reads' HO_4.out).1; omega) | simpa using h_) (seg := [v209]) (j := 0) (show 1 ≤ 1 from by decide) (x' := y208) (Kd.M_row (Kd.R_mono (Kd.R_tight rfl (Kd.R_mono (ok' := fun k_ => ((fun _ => True)) k_ ∧ k_ ≠ go10) (Kd.R_apart' (HO210.out) (Kd.S_typed HO_4.out) (by decide)) (fun k_ hk => ⟨trivial, fun e_ => (hk.2) (by rw [e_]; rfl)⟩))) (fun _ h_ => Or.inr (h_)))) (fun _ hk => hk) (fun k_ hk_ => ((Kd.R_mono (ok' := fun k_ => ((fun _ => True)) k_ ∧ k_ ≠ go10) (Kd.R_apart' (HO210.out) (Kd.S_typed HO_4.out) (by decide)) (fun k_ hk => ⟨trivial, fun e_ => (hk.2) (by rw [e_]; rfl)⟩))).1 k_ hk_.symm); have hx13_0 := hcc13 0 _ rfl; (try simp only [show ((Kd.slice 3 (Kd.int .i64))).sz = 1 from rfl, Nat.mul_one, Nat.add_zero] at hx13_0); have hf13_0 := hfr13 0; (try simp only [show ((Kd.slice 3 (Kd.int .i64))).sz = 1 from rfl, Nat.mul_one, Nat.add_zero] at hf13_0); (try clear hM13); clear hcl13 hcc13 hfr13 hoki13 hH13; (try simp only [show ((Kd.slice 3 (Kd.int .i64))).sz = 1 from rfl, Nat.mul_one, Nat.add_zero] at HP13); obtain ⟨Ae_, ce_, ev_⟩ := Kd.R_slice HO210.out) | ((with_reducible refine gate_store (t := 28) (p := 22) rfl ?_); refine store_event (t := 28) (p := 22) (v := ?vo_w14) (w1 := (w11.setCell ⟨go10, (x5_1 : Int).toNat, none⟩ (v209))) ?hg ?ho ?hn ?hr ?_; (case ho => rfl); (case hg => rfl); (case hn => rfl); (case hr => first | (go_simp; done) | (go_simp; rfl)); intro w14 hw; have hg : w11.grownBy w14 (some go10) := (by rw [hw]; exact HP13.2); have hp_ : Kd.S (Kd.slice 3 (Kd.int .i64)) 28 w14 w.heap.size (fun _ => True) (.slice (some ⟨go10, 0, none⟩) x4_1.length co10) y211 := (by rw [hw, Ny211.out]; exact HP13.1); clear HP13; have n0_ := am (hp_); have n1_ := am ((by rw [hw]; exact below_set (HB.out) GB10.out : Below w.heap.size w w14)); clear HO_4; clear HB; clear HO210; have HO_4 := n0_; have HB := n1_; clear n0_ n1_; clear hg hw hp_; (try clear ev_)))
     go_loopg [6] k1 (fun kq v6 w' => ∃ (x4_2 : List (List Int)) (x6_2 : Int), v6 = .int .i64 x6_2 ∧ Aside0 (spec_l2Fewest.l1 kq l0 (l0.length : Int) x4_2 x5_1 x6_2 = some r) ∧ Aside0 (kq ≤ k1) ∧ Aside0 (Kd.S (Kd.slice 3 (Kd.int .i64)) 28 w' w.heap.size (fun _ => True) (.slice (some ⟨go10, 0, none⟩) x4_1.length co10) x4_2) ∧ Aside0 (Below w.heap.size w w'))
     case atStart => exact ⟨(y211), (0), (by first | rfl | simp | simp [*]), H', ⟨Nat.le_refl _⟩, ⟨by (with_reducible repeat (first | apply Kd.S_alloc | apply Kd.S_drewN | apply Kd.S_drew)); exact HO_4.out⟩, ⟨bu HB.out⟩⟩
     case round =>
      clear H'
      (try clear c1); (try clear p1); (try clear q1); (try clear hx1); (try clear hf1); (try clear c2); (try clear c2b0); (try clear c2b1); (try clear p2); (try clear c3); (try clear c3b0); (try clear c3b1); (try clear c6); (try clear c6b0); (try clear p6); (try clear c7); (try clear c7b0); (try clear c7b1); (try clear c8); (try clear c8b0); (try clear c9); (try clear c9b0); (try clear c10); (try clear p10); (try clear q10); (try clear hx10); (try clear hf10); (try clear c13); (try clear hx13); (try clear hf13); (try clear hx10_0); (try clear hx13_0); (try clear p10); (try clear p2); (try clear q10)
      obtain ⟨x4_2, x6_2, rfl, HA, HK2, HO_4, HB⟩ := hrel
      have hl4_2 := (Kd.S_reads' HO_4.out).1
      rw [hl4_2] at HO_4
      (try simp only [hl4_2])
      cases gk with
      | zero => exact absurd HA.out (by simp [spec_l2Fewest.l1])
      | succ k2 =>
       have H := HA.out
       clear HA
       simp only [spec_l2Fewest.l1] at H
       by_cases c15 : x6_2 ≤ 20
       ·rw [if_pos c15] at H
        have c15b0 : decide (x6_2 ≤ 20) = true := decide_eq_true c15
        clear c15
        by_cases c16 : 0 ≤ x5_1
        case neg => rw [if_neg c16] at H; exact absurd H (by simp)
        rw [if_pos c16] at H
        have c16b0 : decide (0 ≤ x5_1) = true := decide_eq_true c16
        clear c16
        by_cases c17 : x5_1 < (x4_2.length : Int)
        case neg => rw [if_neg c17] at H; exact absurd H (by simp)
        rw [if_pos c17] at H
        have c17b0 : decide (x5_1 < (x4_2.length : Int)) = true := decide_eq_true c17
        clear c17
        by_cases c18 : 0 ≤ x6_2
        case neg => rw [if_neg c18] at H; exact absurd H (by simp)
        rw [if_pos c18] at H
        have c18b0 : decide (0 ≤ x6_2) = true := decide_eq_true c18
        clear c18
        by_cases c19 : x6_2 < ((rd_L8 x4_2 x5_1).length : Int)
        case neg => rw [if_neg c19] at H; exact absurd H (by simp)
        rw [if_pos c19] at H
        have c19b0 : decide (x6_2 < ((rd_L8 x4_2 x5_1).length : Int)) = true := decide_eq_true c19
        clear c19
        obtain ⟨y213, hy213⟩ : ∃ y_ : List Int, y_ = ((rd_L8 x4_2 x5_1).set (x6_2 : Int).toNat (-1)) := ⟨_, rfl⟩
        replace H : ((some (x4_2.set (x5_1 : Int).toNat y213 : List (List Int))).bind fun y215 => (if x5_1 < (l0.length : Int) then ((spec_HexSyllable.f k2 x6_2 ((rd_T74 l0 x5_1).f0) ((rd_T74 l0 x5_1).f1)).bind fun t217 => (if t217 < 0 then (spec_l2Fewest.l1 k2 l0 (l0.length : Int) y215 x5_1 (wrap64 (x6_2 + 1))) else (if x5_1 = (wrap64 ((l0.length : Int) - 1)) then (if x6_2 < ((rd_L8 y215 x5_1).length : Int) then (spec_l2Fewest.l1 k2 l0 (l0.length : Int) (y215.set (x5_1 : Int).toNat ((rd_L8 y215 x5_1).set (x6_2 : Int).toNat 0)) x5_1 (wrap64 (x6_2 + 1))) else (none)) else (spec_l2Fewest.l2 k2 l0 (l0.length : Int) y215 x5_1 x6_2 0)))) else (none))) = some r := by first | (rw [hy213]; with_reducible exact H) | (have H2_ := (Option.bind_some _ _).symm.trans H; rw [hy213]; with_reducible exact H2_) | (have H2_ := (Option.bind_some _ _).symm.trans H; with_reducible exact H2_) | with_reducible exact H | (rw [hy213]; exact H) | exact H
        have Ny213 := am hy213
        clear hy213
        obtain ⟨y215, hy215⟩ : ∃ y_ : List (List Int), y_ = (x4_2.set (x5_1 : Int).toNat y213) := ⟨_, rfl⟩
        replace H : (if x5_1 < (l0.length : Int) then ((spec_HexSyllable.f k2 x6_2 ((rd_T74 l0 x5_1).f0) ((rd_T74 l0 x5_1).f1)).bind fun t217 => (if t217 < 0 then (spec_l2Fewest.l1 k2 l0 (l0.length : Int) y215 x5_1 (wrap64 (x6_2 + 1))) else (if x5_1 = (wrap64 ((l0.length : Int) - 1)) then (if x6_2 < ((rd_L8 y215 x5_1).length : Int) then (spec_l2Fewest.l1 k2 l0 (l0.length : Int) (y215.set (x5_1 : Int).toNat ((rd_L8 y215 x5_1).set (x6_2 : Int).toNat 0)) x5_1 (wrap64 (x6_2 + 1))) else (none)) else (spec_l2Fewest.l2 k2 l0 (l0.length : Int) y215 x5_1 x6_2 0)))) else (none)) = some r := by first | (rw [hy215]; with_reducible exact H) | (have H2_ := (Option.bind_some _ _).symm.trans H; rw [hy215]; with_reducible exact H2_) | (have H2_ := (Option.bind_some _ _).symm.trans H; with_reducible exact H2_) | with_reducible exact H | (rw [hy215]; exact H) | exact H
        have Ny215 := am hy215
        clear hy215
        by_cases c21 : x5_1 < (l0.length : Int)
        case neg => rw [if_neg c21] at H; exact absurd H (by simp)
        rw [if_pos c21] at H
        have c21b0 : decide (x5_1 < (l0.length : Int)) = true := decide_eq_true c21
        clear c21
        replace H := Option.bind_eq_some_iff.mp H
        obtain ⟨t217, A220, H⟩ := H
        replace H : (if t217 < 0 then (spec_l2Fewest.l1 k2 l0 (l0.length : Int) y215 x5_1 (wrap64 (x6_2 + 1))) else (if x5_1 = (wrap64 ((l0.length : Int) - 1)) then (if x6_2 < ((rd_L8 y215 x5_1).length : Int) then (spec_l2Fewest.l1 k2 l0 (l0.length : Int) (y215.set (x5_1 : Int).toNat ((rd_L8 y215 x5_1).set (x6_2 : Int).toNat 0)) x5_1 (wrap64 (x6_2 + 1))) else (none)) else (spec_l2Fewest.l2 k2 l0 (l0.length : Int) y215 x5_1 x6_2 0))) = some r := H
        have A22 := am A220
        clear A220
        by_cases c23 : t217 < 0
        ·rw [if_pos c23] at H
         have c23b0 : decide (t217 < 0) = true := decide_eq_true c23
         clear c23
         have H' := am H
         clear H
         have p212 : 0 ≤ (x5_1 : Int) := od
         have q212 : x5_1 < (x4_2.length : Int) := od
         obtain ⟨ad212, A212_0, c212_0, e212, hx212_0, hl212_0, hi212_0⟩ := at_L8 (Kd.S_reads' HO_4.out).2.2 x5_1 p212 q212
         obtain rfl : (⟨go10, 0, none⟩ : Addr) = ad212 := (by injection e212)
         obtain ⟨ce212, hce212, hMe212, hcc212⟩ := Kd.S_get HO_4.out [] x5_1 p212 (by first | exact q212 | exact od | (have e_ := (Kd.S_reads' HO_4.out).1; omega))
         obtain ⟨ve212_0, rfl, ge212_0⟩ := hMe212
         have hv212_0 := hcc212 0 _ rfl
         rw [Nat.add_zero, show ((Kd.slice 3 (Kd.int .i64))).sz = 1 from rfl, Nat.mul_one] at hv212_0
         replace hv212_0 := Option.some.inj (hv212_0.symm.trans hx212_0)
         rw [hv212_0] at ge212_0
         have HL212_0 := am (show Kd.R (Kd.int .i64) 3 _ _ _ _ (rd_L8 x4_2 x5_1) from ge212_0)
         clear hv212_0 ge212_0
         have HX212_0 := am hx212_0
         clear hcc212 hce212
         (first | simp only [add_plain] at hx212_0 | simp only [add_at] at hx212_0 | simp only [Addr.add, Nat.zero_add] at hx212_0 | skip)
         have HR212_0 := am hi212_0
         have HC212_0 := am hl212_0
         clear hi212_0 hl212_0
         replace p212 := eq_true p212
         replace q212 := eq_true q212
         have p20 : 0 ≤ (x6_2 : Int) := od
         have q20 : (x6_2 : Int) < (((rd_L8 x4_2 x5_1).length : Int) : Int) := od
         obtain ⟨go20, co20, eo20, gb20, gl20, cl20, HG20⟩ := Kd.R_form HL212_0.out (by omega)
         (first | cases eo20 | (injection eo20 with ea_ en_ ec_; (first | subst ea_ | (injection ea_ with ea_; subst ea_)); subst ec_; clear en_))
         have GB20 := am gb20
         have GG20 := am HG20
         clear gb20 gl20 HG20
         obtain ⟨hx20_0, hf20_0⟩ := Kd.R_celln 0 HL212_0.out (x6_2 : Int) p20 q20
         replace p20 := eq_true p20
         replace q20 := eq_true q20
         have hq24 : (x5_1 : Int) < (x4_2.length : Int) := (by have h_ : (x5_1 : Int) < ((x4_2.length : Int) : Int) := od; first | exact h_ | (have e_ := (Kd.S_reads' HO_4.out).1; omega) | simpa only [List.length_set, List.length_set] using h_)
         obtain ⟨oki24, ce24, hcl24, hM24, hcc24, hok24, hbk24⟩ := Kd.S_borrow HO_4.out [] (x5_1 : Int) (od) hq24
         obtain ⟨ve24_0, rfl, ge24_0⟩ := hM24
         have hv24 := hcc24 0 _ rfl
         rw [Nat.add_zero, show ((Kd.slice 3 (Kd.int .i64))).sz = 1 from rfl, Nat.mul_one] at hv24
         replace hv24 := Option.some.inj (hv24.symm.trans HX212_0.out)
         subst hv24
         clear hcc24 hcl24
         replace ge24_0 := (show Kd.R (Kd.int .i64) 3 _ _ _ _ (rd_L8 x4_2 x5_1) from ge24_0)
         have HP24 := Kd.R_putg ge24_0 (x6_2 : Int) (-1)
         go_wp2_with (first | ((with_reducible refine gate_store (t := 3) (p := 32) rfl ?_); refine store_event (t := 3) (p := 32) (v := ?vo_w25) (w1 := (wr.setCell ⟨go20, (x6_2 : Int).toNat, none⟩ (.int .i64 (-1)))) ?hg ?ho ?hn ?hr ?_; (case ho => rfl); (case hg => rfl); (case hn => rfl); (case hr => first | (go_simp; done) | (go_simp; rfl)); intro w25 hw; have hg : wr.grownBy w25 (some go20) := (by rw [hw]; exact HP24.2); have hz_ : Kd.R (Kd.int .i64) 3 w25 w.heap.size oki24 (.slice (some ⟨go20, 0, none⟩) (rd_L8 x4_2 x5_1).length c212_0) y213 := (by rw [hw, Ny213.out]; exact HP24.1); have hp_ : Kd.S (Kd.slice 3 (Kd.int .i64)) 28 w25 w.heap.size (fun _ => True) (.slice (some ⟨go10, 0, none⟩) x4_2.length co10) y215 := (by rw [Ny215.out]; exact hbk24 hg (fun k_ e_ => by injection e_ with e_; subst e_; exact ge24_0.1 _ rfl) (Kd.M_row hz_)); have hm_ := Kd.R_mono hz_ hok24; clear HP24 hbk24; have n0_ := am (hp_); have n1_ := am ((by rw [hw]; exact below_set (HB.out) GB20.out : Below w.heap.size w w25)); have n2_ := am (hm_); have n3_ := am ((Kd.R_reads' hm_).2.1); clear HO_4; clear HB; clear HL212_0; have HO_4 := n0_; have HB := n1_; have HL248 := n2_; have HC214 := n3_; clear n0_ n1_ n2_ n3_; clear hg hw hp_ hz_ hm_ hok24; have p216 : 0 ≤ (x5_1 : Int) := od; have q216 : x5_1 < (l0.length : Int) := od; obtain ⟨ad216, e216, hx216_0, hx216_1⟩ := at_T74 HR0.out x5_1 p216 q216; cases e216; replace hx216_0 := (HB.out.cell (World.block_lt_of_cell? w _ hx216_0)).trans hx216_0; replace hx216_1 := (HB.out.cell (World.block_lt_of_cell? w _ hx216_1)).trans hx216_1; replace p216 := eq_true p216; replace q216 := eq_true q216) | ((with_reducible refine gate_callee (f := 104) rfl ?_); refine goesL_ (some 38) rfl rfl Tryz.func104 (by kernel_rfl) rfl #[.int .i64 x6_2, .agg #[.int .i64 ((rd_T74 l0 x5_1).f0), .bool ((rd_T74 l0 x5_1).f1)]] rfl (by (try simp only [mA, mC, mN]); first | done | rfl) ?_; (with_reducible refine (spec_HexSyllable.calls k2 x6_2 ((rd_T74 l0 x5_1).f0) ((rd_T74 l0 x5_1).f1) t217 _ A22.out).mono ?_); rintro e w26 ⟨rfl, hb⟩; refine ⟨_, rfl, ?_⟩; have n0_ := am (Kd.S_below (by (with_reducible repeat (first | apply Kd.S_alloc | apply Kd.S_drewN | apply Kd.S_drew)); exact HO_4.out) hb); have n1_ := am (Kd.R_below (ru HL248.out) hb); have n2_ := am (below_step (bu HB.out) hb); clear HO_4; clear HL248; clear HB; have HO_4 := n0_; have HL248 := n1_; have HB := n2_; clear n0_ n1_ n2_; (try clear hb); (try clear hb2); (try clear hk); (try clear hi)))
         (try simp only [← hl4_2])
         go_roundg k2
         case measure => have := HK1.out; have := HK2.out; omega
         case rel => exact ⟨(y215), (wrap64 (x6_2 + 1)), (by first | rfl | simp | simp [*]), H', ⟨by have := HK1.out; have := HK2.out; omega⟩, ⟨by (try simp only [hl4_2]); (with_reducible repeat (first | apply Kd.S_alloc | apply Kd.S_drewN | apply Kd.S_drew)); exact HO_4.out⟩, ⟨bu HB.out⟩⟩
        rw [if_neg c23] at H
        have c23b0 : decide (t217 < 0) = false := decide_eq_false c23
        clear c23
        by_cases c27 : x5_1 = (wrap64 ((l0.length : Int) - 1))
        ·rw [if_pos c27] at H
         have c27b0 : (x5_1 == (wrap64 ((l0.length : Int) - 1))) = true := beq_iff_eq.mpr c27
         have c27b1 : (x5_1 != (wrap64 ((l0.length : Int) - 1))) = false := bne_eq_false_iff_eq.mpr c27
         clear c27
         by_cases c28 : x6_2 < ((rd_L8 y215 x5_1).length : Int)
         case neg => rw [if_neg c28] at H; exact absurd H (by simp)
         rw [if_pos c28] at H
         have c28b0 : decide (x6_2 < ((rd_L8 y215 x5_1).length : Int)) = true := decide_eq_true c28
         clear c28
         obtain ⟨y219, hy219⟩ : ∃ y_ : List Int, y_ = ((rd_L8 y215 x5_1).set (x6_2 : Int).toNat 0) := ⟨_, rfl⟩
         replace H : (spec_l2Fewest.l1 k2 l0 (l0.length : Int) (y215.set (x5_1 : Int).toNat y219) x5_1 (wrap64 (x6_2 + 1))) = some r := by first | (rw [hy219]; with_reducible exact H) | (have H2_ := (Option.bind_some _ _).symm.trans H; rw [hy219]; with_reducible exact H2_) | (have H2_ := (Option.bind_some _ _).symm.trans H; with_reducible exact H2_) | with_reducible exact H | (rw [hy219]; exact H) | exact H
         have Ny219 := am hy219
         clear hy219
         obtain ⟨y221, hy221⟩ : ∃ y_ : List (List Int), y_ = (y215.set (x5_1 : Int).toNat y219) := ⟨_, rfl⟩
         replace H : (spec_l2Fewest.l1 k2 l0 (l0.length : Int) y221 x5_1 (wrap64 (x6_2 + 1))) = some r := by first | (rw [hy221]; with_reducible exact H) | (have H2_ := (Option.bind_some _ _).symm.trans H; rw [hy221]; with_reducible exact H2_) | (have H2_ := (Option.bind_some _ _).symm.trans H; with_reducible exact H2_) | with_reducible exact H | (rw [hy221]; exact H) | exact H
         have Ny221 := am hy221
         clear hy221
         have H' := am H
         clear H
         have p212 : 0 ≤ (x5_1 : Int) := od
         have q212 : x5_1 < (x4_2.length : Int) := od
         obtain ⟨ad212, A212_0, c212_0, e212, hx212_0, hl212_0, hi212_0⟩ := at_L8 (Kd.S_reads' HO_4.out).2.2 x5_1 p212 q212
         obtain rfl : (⟨go10, 0, none⟩ : Addr) = ad212 := (by injection e212)
         obtain ⟨ce212, hce212, hMe212, hcc212⟩ := Kd.S_get HO_4.out [] x5_1 p212 (by first | exact q212 | exact od | (have e_ := (Kd.S_reads' HO_4.out).1; omega))
         obtain ⟨ve212_0, rfl, ge212_0⟩ := hMe212
         have hv212_0 := hcc212 0 _ rfl
         rw [Nat.add_zero, show ((Kd.slice 3 (Kd.int .i64))).sz = 1 from rfl, Nat.mul_one] at hv212_0
         replace hv212_0 := Option.some.inj (hv212_0.symm.trans hx212_0)
         rw [hv212_0] at ge212_0
         have HL212_0 := am (show Kd.R (Kd.int .i64) 3 _ _ _ _ (rd_L8 x4_2 x5_1) from ge212_0)
         clear hv212_0 ge212_0
         have HX212_0 := am hx212_0
         clear hcc212 hce212
         (first | simp only [add_plain] at hx212_0 | simp only [add_at] at hx212_0 | simp only [Addr.add, Nat.zero_add] at hx212_0 | skip)
         have HR212_0 := am hi212_0
         have HC212_0 := am hl212_0
         clear hi212_0 hl212_0
         replace p212 := eq_true p212
         replace q212 := eq_true q212
         have p20 : 0 ≤ (x6_2 : Int) := od
         have q20 : (x6_2 : Int) < (((rd_L8 x4_2 x5_1).length : Int) : Int) := od
         obtain ⟨go20, co20, eo20, gb20, gl20, cl20, HG20⟩ := Kd.R_form HL212_0.out (by omega)
         (first | cases eo20 | (injection eo20 with ea_ en_ ec_; (first | subst ea_ | (injection ea_ with ea_; subst ea_)); subst ec_; clear en_))
         have GB20 := am gb20
         have GG20 := am HG20
         clear gb20 gl20 HG20
         obtain ⟨hx20_0, hf20_0⟩ := Kd.R_celln 0 HL212_0.out (x6_2 : Int) p20 q20
         replace p20 := eq_true p20
         replace q20 := eq_true q20
         have hq30 : (x5_1 : Int) < (x4_2.length : Int) := (by have h_ : (x5_1 : Int) < ((x4_2.length : Int) : Int) := od; first | exact h_ | (have e_ := (Kd.S_reads' HO_4.out).1; omega) | simpa only [List.length_set, List.length_set] using h_)
         obtain ⟨oki30, ce30, hcl30, hM30, hcc30, hok30, hbk30⟩ := Kd.S_borrow HO_4.out [] (x5_1 : Int) (od) hq30
         obtain ⟨ve30_0, rfl, ge30_0⟩ := hM30
         have hv30 := hcc30 0 _ rfl
         rw [Nat.add_zero, show ((Kd.slice 3 (Kd.int .i64))).sz = 1 from rfl, Nat.mul_one] at hv30
         replace hv30 := Option.some.inj (hv30.symm.trans HX212_0.out)
         subst hv30
         clear hcc30 hcl30
         replace ge30_0 := (show Kd.R (Kd.int .i64) 3 _ _ _ _ (rd_L8 x4_2 x5_1) from ge30_0)
         have HP30 := Kd.R_putg ge30_0 (x6_2 : Int) (-1)
         go_wp2_with (first | ((with_reducible refine gate_store (t := 3) (p := 32) rfl ?_); refine store_event (t := 3) (p := 32) (v := ?vo_w31) (w1 := (wr.setCell ⟨go20, (x6_2 : Int).toNat, none⟩ (.int .i64 (-1)))) ?hg ?ho ?hn ?hr ?_; (case ho => rfl); (case hg => rfl); (case hn => rfl); (case hr => first | (go_simp; done) | (go_simp; rfl)); intro w31 hw; have hg : wr.grownBy w31 (some go20) := (by rw [hw]; exact HP30.2); have hz_ : Kd.R (Kd.int .i64) 3 w31 w.heap.size oki30 (.slice (some ⟨go20, 0, none⟩) (rd_L8 x4_2 x5_1).length c212_0) y213 := (by rw [hw, Ny213.out]; exact HP30.1); have hp_ : Kd.S (Kd.slice 3 (Kd.int .i64)) 28 w31 w.heap.size (fun _ => True) (.slice (some ⟨go10, 0, none⟩) x4_2.length co10) y215 := (by rw [Ny215.out]; exact hbk30 hg (fun k_ e_ => by injection e_ with e_; subst e_; exact ge30_0.1 _ rfl) (Kd.M_row hz_)); have hm_ := Kd.R_mono hz_ hok30; clear HP30 hbk30; have n0_ := am (hp_); have n1_ := am ((by rw [hw]; exact below_set (HB.out) GB20.out : Below w.heap.size w w31)); have n2_ := am (hm_); have n3_ := am ((Kd.R_reads' hm_).2.1); clear HO_4; clear HB; clear HL212_0; have HO_4 := n0_; have HB := n1_; have HL249 := n2_; have HC214 := n3_; clear n0_ n1_ n2_ n3_; clear hg hw hp_ hz_ hm_ hok30; have p216 : 0 ≤ (x5_1 : Int) := od; have q216 : x5_1 < (l0.length : Int) := od; obtain ⟨ad216, e216, hx216_0, hx216_1⟩ := at_T74 HR0.out x5_1 p216 q216; cases e216; replace hx216_0 := (HB.out.cell (World.block_lt_of_cell? w _ hx216_0)).trans hx216_0; replace hx216_1 := (HB.out.cell (World.block_lt_of_cell? w _ hx216_1)).trans hx216_1; replace p216 := eq_true p216; replace q216 := eq_true q216) | ((with_reducible refine gate_callee (f := 104) rfl ?_); refine goesL_ (some 38) rfl rfl Tryz.func104 (by kernel_rfl) rfl #[.int .i64 x6_2, .agg #[.int .i64 ((rd_T74 l0 x5_1).f0), .bool ((rd_T74 l0 x5_1).f1)]] rfl (by (try simp only [mA, mC, mN]); first | done | rfl) ?_; (with_reducible refine (spec_HexSyllable.calls k2 x6_2 ((rd_T74 l0 x5_1).f0) ((rd_T74 l0 x5_1).f1) t217 _ A22.out).mono ?_); rintro e w32 ⟨rfl, hb⟩; refine ⟨_, rfl, ?_⟩; have n0_ := am (Kd.S_below (by (with_reducible repeat (first | apply Kd.S_alloc | apply Kd.S_drewN | apply Kd.S_drew)); exact HO_4.out) hb); have n1_ := am (Kd.R_below (ru HL249.out) hb); have n2_ := am (below_step (bu HB.out) hb); clear HO_4; clear HL249; clear HB; have HO_4 := n0_; have HL249 := n1_; have HB := n2_; clear n0_ n1_ n2_; (try clear hb); (try clear hb2); (try clear hk); (try clear hi); have p218 : 0 ≤ (x5_1 : Int) := od; have q218 : x5_1 < (y215.length : Int) := (by have h_ : (x5_1 : Int) < ((x4_2.length : Int) : Int) := od; first | (have e_ := (Kd.S_reads' HO_4.out).1; omega) | simpa only [Ny215.out, List.length_set] using h_); have ql218 : ((x5_1 : Int) < ((x4_2.length : Int) : Int)) = True := eq_true (od); obtain ⟨ad218, A218_0, c218_0, e218, hx218_0, hl218_0, hi218_0⟩ := at_L8 (Kd.S_reads' HO_4.out).2.2 x5_1 p218 q218; obtain rfl : (⟨go10, 0, none⟩ : Addr) = ad218 := (by injection e218); obtain ⟨ce218, hce218, hMe218, hcc218⟩ := Kd.S_get HO_4.out [] x5_1 p218 (by first | exact q218 | exact od | (have e_ := (Kd.S_reads' HO_4.out).1; omega)); obtain ⟨ve218_0, rfl, ge218_0⟩ := hMe218; have hv218_0 := hcc218 0 _ rfl; rw [Nat.add_zero, show ((Kd.slice 3 (Kd.int .i64))).sz = 1 from rfl, Nat.mul_one] at hv218_0; replace hv218_0 := Option.some.inj (hv218_0.symm.trans hx218_0); rw [hv218_0] at ge218_0; have HL218_0 := am (show Kd.R (Kd.int .i64) 3 _ _ _ _ (rd_L8 y215 x5_1) from ge218_0); clear hv218_0 ge218_0; have HX218_0 := am hx218_0; clear hcc218 hce218; (first | simp only [add_plain] at hx218_0 | simp only [add_at] at hx218_0 | simp only [Addr.add, Nat.zero_add] at hx218_0 | skip); have HR218_0 := am hi218_0; have HC218_0 := am hl218_0; clear hi218_0 hl218_0; replace p218 := eq_true p218; replace q218 := eq_true q218; have p29 : 0 ≤ (x6_2 : Int) := od; have q29 : (x6_2 : Int) < (((rd_L8 y215 x5_1).length : Int) : Int) := od; obtain ⟨go29, co29, eo29, gb29, gl29, cl29, HG29⟩ := Kd.R_form HL218_0.out (by omega); (first | cases eo29 | (injection eo29 with ea_ en_ ec_; (first | subst ea_ | (injection ea_ with ea_; subst ea_)); subst ec_; clear en_)); have GB29 := am gb29; have GG29 := am HG29; clear gb29 gl29 HG29; obtain ⟨hx29_0, hf29_0⟩ := Kd.R_celln 0 HL218_0.out (x6_2 : Int) p29 q29; replace p29 := eq_true p29; replace q29 := eq_true q29; have hq33 : (x5_1 : Int) < (y215.length : Int) := (by have h_ : (x5_1 : Int) < ((x4_2.length : Int) : Int) := od; first | exact h_ | (have e_ := (Kd.S_reads' HO_4.out).1; omega) | simpa only [Ny215.out, List.length_set] using h_); obtain ⟨oki33, ce33, hcl33, hM33, hcc33, hok33, hbk33⟩ := Kd.S_borrow HO_4.out [] (x5_1 : Int) (od) (by first | exact hq33 | exact od); obtain ⟨ve33_0, rfl, ge33_0⟩ := hM33; have hv33 := hcc33 0 _ rfl; rw [Nat.add_zero, show ((Kd.slice 3 (Kd.int .i64))).sz = 1 from rfl, Nat.mul_one] at hv33; replace hv33 := Option.some.inj (hv33.symm.trans HX218_0.out); subst hv33; clear hcc33 hcl33; replace ge33_0 := (show Kd.R (Kd.int .i64) 3 _ _ _ _ (rd_L8 y215 x5_1) from ge33_0); have HP33 := Kd.R_putg ge33_0 (x6_2 : Int) 0) | ((with_reducible refine gate_store (t := 3) (p := 49) rfl ?_); refine store_event (t := 3) (p := 49) (v := ?vo_w34) (w1 := (w32.setCell ⟨go29, (x6_2 : Int).toNat, none⟩ (.int .i64 0))) ?hg ?ho ?hn ?hr ?_; (case ho => rfl); (case hg => rfl); (case hn => rfl); (case hr => first | (go_simp; done) | (go_simp; rfl)); intro w34 hw; have hg : w32.grownBy w34 (some go29) := (by rw [hw]; exact HP33.2); have hz_ : Kd.R (Kd.int .i64) 3 w34 w.heap.size oki33 (.slice (some ⟨go29, 0, none⟩) (rd_L8 y215 x5_1).length c218_0) y219 := (by rw [hw, Ny219.out]; exact HP33.1); have hp_ : Kd.S (Kd.slice 3 (Kd.int .i64)) 28 w34 w.heap.size (fun _ => True) (.slice (some ⟨go10, 0, none⟩) x4_2.length co10) y221 := (by rw [Ny221.out]; exact hbk33 hg (fun k_ e_ => by injection e_ with e_; subst e_; exact ge33_0.1 _ rfl) (Kd.M_row hz_)); have hm_ := Kd.R_mono hz_ hok33; clear HP33 hbk33; have n0_ := am (hp_); have n1_ := am ((by rw [hw]; exact below_set (HB.out) GB29.out : Below w.heap.size w w34)); have n2_ := am (hm_); have n3_ := am ((Kd.R_reads' hm_).2.1); clear HO_4; clear HB; clear HL249; clear HL218_0; have HO_4 := n0_; have HB := n1_; have HL250 := n2_; have HC220 := n3_; clear n0_ n1_ n2_ n3_; clear hg hw hp_ hz_ hm_ hok33))
         (try simp only [← hl4_2])
         go_roundg k2
         case measure => have := HK1.out; have := HK2.out; omega
         case rel => exact ⟨(y221), (wrap64 (x6_2 + 1)), (by first | rfl | simp | simp [*]), H', ⟨by have := HK1.out; have := HK2.out; omega⟩, ⟨by (try simp only [hl4_2]); (with_reducible repeat (first | apply Kd.S_alloc | apply Kd.S_drewN | apply Kd.S_drew)); exact HO_4.out⟩, ⟨bu HB.out⟩⟩
        rw [if_neg c27] at H
        have c27b0 : (x5_1 == (wrap64 ((l0.length : Int) - 1))) = false := beq_eq_false_iff_ne.mpr c27
        have c27b1 : (x5_1 != (wrap64 ((l0.length : Int) - 1))) = true := bne_iff_ne.mpr c27
        have H' := am H
        clear H
        have p212 : 0 ≤ (x5_1 : Int) := od
        have q212 : x5_1 < (x4_2.length : Int) := od
        obtain ⟨ad212, A212_0, c212_0, e212, hx212_0, hl212_0, hi212_0⟩ := at_L8 (Kd.S_reads' HO_4.out).2.2 x5_1 p212 q212
        obtain rfl : (⟨go10, 0, none⟩ : Addr) = ad212 := (by injection e212)
        obtain ⟨ce212, hce212, hMe212, hcc212⟩ := Kd.S_get HO_4.out [] x5_1 p212 (by first | exact q212 | exact od | (have e_ := (Kd.S_reads' HO_4.out).1; omega))
        obtain ⟨ve212_0, rfl, ge212_0⟩ := hMe212
        have hv212_0 := hcc212 0 _ rfl
        rw [Nat.add_zero, show ((Kd.slice 3 (Kd.int .i64))).sz = 1 from rfl, Nat.mul_one] at hv212_0
        replace hv212_0 := Option.some.inj (hv212_0.symm.trans hx212_0)
        rw [hv212_0] at ge212_0
        have HL212_0 := am (show Kd.R (Kd.int .i64) 3 _ _ _ _ (rd_L8 x4_2 x5_1) from ge212_0)
        clear hv212_0 ge212_0
        have HX212_0 := am hx212_0
        clear hcc212 hce212
        (first | simp only [add_plain] at hx212_0 | simp only [add_at] at hx212_0 | simp only [Addr.add, Nat.zero_add] at hx212_0 | skip)
        have HR212_0 := am hi212_0
        have HC212_0 := am hl212_0
        clear hi212_0 hl212_0
        replace p212 := eq_true p212
        replace q212 := eq_true q212
        have p20 : 0 ≤ (x6_2 : Int) := od
        have q20 : (x6_2 : Int) < (((rd_L8 x4_2 x5_1).length : Int) : Int) := od
        obtain ⟨go20, co20, eo20, gb20, gl20, cl20, HG20⟩ := Kd.R_form HL212_0.out (by omega)
        (first | cases eo20 | (injection eo20 with ea_ en_ ec_; (first | subst ea_ | (injection ea_ with ea_; subst ea_)); subst ec_; clear en_))
        have GB20 := am gb20
        have GG20 := am HG20
        clear gb20 gl20 HG20
        obtain ⟨hx20_0, hf20_0⟩ := Kd.R_celln 0 HL212_0.out (x6_2 : Int) p20 q20
        replace p20 := eq_true p20
        replace q20 := eq_true q20
        have hq35 : (x5_1 : Int) < (x4_2.length : Int) := (by have h_ : (x5_1 : Int) < ((x4_2.length : Int) : Int) := od; first | exact h_ | (have e_ := (Kd.S_reads' HO_4.out).1; omega) | simpa only [List.length_set, List.length_set] using h_)
        obtain ⟨oki35, ce35, hcl35, hM35, hcc35, hok35, hbk35⟩ := Kd.S_borrow HO_4.out [] (x5_1 : Int) (od) hq35
        obtain ⟨ve35_0, rfl, ge35_0⟩ := hM35
        have hv35 := hcc35 0 _ rfl
        rw [Nat.add_zero, show ((Kd.slice 3 (Kd.int .i64))).sz = 1 from rfl, Nat.mul_one] at hv35
        replace hv35 := Option.some.inj (hv35.symm.trans HX212_0.out)
        subst hv35
        clear hcc35 hcl35
        replace ge35_0 := (show Kd.R (Kd.int .i64) 3 _ _ _ _ (rd_L8 x4_2 x5_1) from ge35_0)
        have HP35 := Kd.R_putg ge35_0 (x6_2 : Int) (-1)
        go_wp2_with (first | ((with_reducible refine gate_store (t := 3) (p := 32) rfl ?_); refine store_event (t := 3) (p := 32) (v := ?vo_w36) (w1 := (wr.setCell ⟨go20, (x6_2 : Int).toNat, none⟩ (.int .i64 (-1)))) ?hg ?ho ?hn ?hr ?_; (case ho => rfl); (case hg => rfl); (case hn => rfl); (case hr => first | (go_simp; done) | (go_simp; rfl)); intro w36 hw; have hg : wr.grownBy w36 (some go20) := (by rw [hw]; exact HP35.2); have hz_ : Kd.R (Kd.int .i64) 3 w36 w.heap.size oki35 (.slice (some ⟨go20, 0, none⟩) (rd_L8 x4_2 x5_1).length c212_0) y213 := (by rw [hw, Ny213.out]; exact HP35.1); have hp_ : Kd.S (Kd.slice 3 (Kd.int .i64)) 28 w36 w.heap.size (fun _ => True) (.slice (some ⟨go10, 0, none⟩) x4_2.length co10) y215 := (by rw [Ny215.out]; exact hbk35 hg (fun k_ e_ => by injection e_ with e_; subst e_; exact ge35_0.1 _ rfl) (Kd.M_row hz_)); have hm_ := Kd.R_mono hz_ hok35; clear HP35 hbk35; have n0_ := am (hp_); have n1_ := am ((by rw [hw]; exact below_set (HB.out) GB20.out : Below w.heap.size w w36)); have n2_ := am (hm_); have n3_ := am ((Kd.R_reads' hm_).2.1); clear HO_4; clear HB; clear HL212_0; have HO_4 := n0_; have HB := n1_; have HL251 := n2_; have HC214 := n3_; clear n0_ n1_ n2_ n3_; clear hg hw hp_ hz_ hm_ hok35; have p216 : 0 ≤ (x5_1 : Int) := od; have q216 : x5_1 < (l0.length : Int) := od; obtain ⟨ad216, e216, hx216_0, hx216_1⟩ := at_T74 HR0.out x5_1 p216 q216; cases e216; replace hx216_0 := (HB.out.cell (World.block_lt_of_cell? w _ hx216_0)).trans hx216_0; replace hx216_1 := (HB.out.cell (World.block_lt_of_cell? w _ hx216_1)).trans hx216_1; replace p216 := eq_true p216; replace q216 := eq_true q216) | ((with_reducible refine gate_callee (f := 104) rfl ?_); refine goesL_ (some 38) rfl rfl Tryz.func104 (by kernel_rfl) rfl #[.int .i64 x6_2, .agg #[.int .i64 ((rd_T74 l0 x5_1).f0), .bool ((rd_T74 l0 x5_1).f1)]] rfl (by (try simp only [mA, mC, mN]); first | done | rfl) ?_; (with_reducible refine (spec_HexSyllable.calls k2 x6_2 ((rd_T74 l0 x5_1).f0) ((rd_T74 l0 x5_1).f1) t217 _ A22.out).mono ?_); rintro e w37 ⟨rfl, hb⟩; refine ⟨_, rfl, ?_⟩; have n0_ := am (Kd.S_below (by (with_reducible repeat (first | apply Kd.S_alloc | apply Kd.S_drewN | apply Kd.S_drew)); exact HO_4.out) hb); have n1_ := am (Kd.R_below (ru HL251.out) hb); have n2_ := am (below_step (bu HB.out) hb); clear HO_4; clear HL251; clear HB; have HO_4 := n0_; have HL251 := n1_; have HB := n2_; clear n0_ n1_ n2_; (try clear hb); (try clear hb2); (try clear hk); (try clear hi)))
        go_loopg [7] k2 (fun kq v7 w' => ∃ (x4_3 : List (List Int)) (x7_3 : Int), v7 = .int .i64 x7_3 ∧ Aside0 (spec_l2Fewest.l2 kq l0 (l0.length : Int) x4_3 x5_1 x6_2 x7_3 = some r) ∧ Aside0 (kq ≤ k2) ∧ Aside0 (Kd.S (Kd.slice 3 (Kd.int .i64)) 28 w' w.heap.size (fun _ => True) (.slice (some ⟨go10, 0, none⟩) x4_2.length co10) x4_3) ∧ Aside0 (Below w.heap.size w w'))
        case atStart => exact ⟨(y215), (0), (by first | rfl | simp | simp [*]), H', ⟨Nat.le_refl _⟩, ⟨by (try simp only [hl4_2]); (with_reducible repeat (first | apply Kd.S_alloc | apply Kd.S_drewN | apply Kd.S_drew)); exact HO_4.out⟩, ⟨bu HB.out⟩⟩
        case round =>
         clear H'
         (try clear c1); (try clear p1); (try clear q1); (try clear hx1); (try clear hf1); (try clear c2); (try clear c2b0); (try clear c2b1); (try clear p2); (try clear q2); (try clear hx2); (try clear hf2); (try clear c3); (try clear c3b0); (try clear c3b1); (try clear q3); (try clear c6); (try clear c6b0); (try clear p6); (try clear c7); (try clear c7b0); (try clear c7b1); (try clear c8); (try clear c8b0); (try clear c9); (try clear c9b0); (try clear c10); (try clear p10); (try clear q10); (try clear hx10); (try clear hf10); (try clear c13); (try clear hx13); (try clear hf13); (try clear c15); (try clear c15b0); (try clear c16); (try clear c16b0); (try clear c17); (try clear c17b0); (try clear c18); (try clear c18b0); (try clear c19); (try clear c19b0); (try clear p20); (try clear q20); (try clear hx20); (try clear hf20); (try clear c21); (try clear c21b0); (try clear p21); (try clear q21); (try clear hx21); (try clear c23); (try clear c23b0); (try clear c24); (try clear q24); (try clear c27); (try clear c27b0); (try clear c27b1); (try clear c28); (try clear c28b0); (try clear p29); (try clear q29); (try clear hx29); (try clear hf29); (try clear c30); (try clear q30); (try clear c33); (try clear q33); (try clear c35); (try clear q35); (try clear hx10_0); (try clear hx13_0); (try clear hx20_0); (try clear hx212_0); (try clear hx216_0); (try clear hx216_1); (try clear hx218_0); (try clear hx29_0); (try clear p1); (try clear p10); (try clear p2); (try clear p20); (try clear p212); (try clear p216); (try clear p218); (try clear p29); (try clear p6); (try clear q1); (try clear q10); (try clear q20); (try clear q212); (try clear q216); (try clear q218); (try clear q29)
         obtain ⟨x4_3, x7_3, rfl, HA, HK3, HO_4, HB⟩ := hrel
         have hl4_3 := (Kd.S_reads' HO_4.out).1
         rw [hl4_3] at HO_4
         (try simp only [hl4_3])
         cases gk with
         | zero => exact absurd HA.out (by simp [spec_l2Fewest.l2])
         | succ k3 =>
          have H := HA.out
          clear HA
          simp only [spec_l2Fewest.l2] at H
          by_cases c38 : x7_3 ≤ 20
          ·rw [if_pos c38] at H
           have c38b0 : decide (x7_3 ≤ 20) = true := decide_eq_true c38
           clear c38
           obtain ⟨ji39, hji39⟩ : ∃ j_ : Int, (wrap64 (x5_1 + 1)) = j_ := ⟨_, rfl⟩
           replace H : (if 0 ≤ (ji39) then (if (ji39) < (x4_3.length : Int) then (if 0 ≤ x7_3 then (if x7_3 < ((rd_L8 x4_3 (ji39)).length : Int) then (if (rd (rd_L8 x4_3 (ji39)) x7_3) < 0 then (spec_l2Fewest.l2 k3 l0 (l0.length : Int) x4_3 x5_1 x6_2 (wrap64 (x7_3 + 1))) else (if x7_3 = x6_2 then (if 0 ≤ x5_1 then (if x5_1 < (x4_3.length : Int) then (if 0 ≤ x6_2 then (if x6_2 < ((rd_L8 x4_3 x5_1).length : Int) then (if (rd (rd_L8 x4_3 x5_1) x6_2) < 0 then (spec_l2Fewest.l2 k3 l0 (l0.length : Int) (x4_3.set (x5_1 : Int).toNat ((rd_L8 x4_3 x5_1).set (x6_2 : Int).toNat (rd (rd_L8 x4_3 (ji39)) x7_3))) x5_1 x6_2 (wrap64 (x7_3 + 1))) else (if (rd (rd_L8 x4_3 (ji39)) x7_3) < (rd (rd_L8 x4_3 x5_1) x6_2) then (spec_l2Fewest.l2 k3 l0 (l0.length : Int) (x4_3.set (x5_1 : Int).toNat ((rd_L8 x4_3 x5_1).set (x6_2 : Int).toNat (rd (rd_L8 x4_3 (ji39)) x7_3))) x5_1 x6_2 (wrap64 (x7_3 + 1))) else (spec_l2Fewest.l2 k3 l0 (l0.length : Int) x4_3 x5_1 x6_2 (wrap64 (x7_3 + 1))))) else (none)) else (none)) else (none)) else (none)) else (if 0 ≤ x5_1 then (if x5_1 < (x4_3.length : Int) then (if 0 ≤ x6_2 then (if x6_2 < ((rd_L8 x4_3 x5_1).length : Int) then (if (rd (rd_L8 x4_3 x5_1) x6_2) < 0 then (spec_l2Fewest.l2 k3 l0 (l0.length : Int) (x4_3.set (x5_1 : Int).toNat ((rd_L8 x4_3 x5_1).set (x6_2 : Int).toNat (wrap64 ((rd (rd_L8 x4_3 (ji39)) x7_3) + 1)))) x5_1 x6_2 (wrap64 (x7_3 + 1))) else (if (wrap64 ((rd (rd_L8 x4_3 (ji39)) x7_3) + 1)) < (rd (rd_L8 x4_3 x5_1) x6_2) then (spec_l2Fewest.l2 k3 l0 (l0.length : Int) (x4_3.set (x5_1 : Int).toNat ((rd_L8 x4_3 x5_1).set (x6_2 : Int).toNat (wrap64 ((rd (rd_L8 x4_3 (ji39)) x7_3) + 1)))) x5_1 x6_2 (wrap64 (x7_3 + 1))) else (spec_l2Fewest.l2 k3 l0 (l0.length : Int) x4_3 x5_1 x6_2 (wrap64 (x7_3 + 1))))) else (none)) else (none)) else (none)) else (none)))) else (none)) else (none)) else (none)) else (none)) = some r := by first | (rw [hji39] at H; exact H) | (simp only [hji39] at H ⊢; exact H)
           have hji39w : (IntKind.i64.wrap (x5_1 + 1)) = ji39 := (i64_w _).trans hji39
           by_cases c40 : 0 ≤ (ji39)
           case neg => rw [if_neg c40] at H; exact absurd H (by simp)
           rw [if_pos c40] at H
           have c40b0 : decide (0 ≤ (ji39)) = true := decide_eq_true c40
           clear c40
           by_cases c41 : (ji39) < (x4_3.length : Int)
           case neg => rw [if_neg c41] at H; exact absurd H (by simp)
           rw [if_pos c41] at H
           have c41b0 : decide ((ji39) < (x4_3.length : Int)) = true := decide_eq_true c41
           clear c41
           by_cases c42 : 0 ≤ x7_3
           case neg => rw [if_neg c42] at H; exact absurd H (by simp)
           rw [if_pos c42] at H
           have c42b0 : decide (0 ≤ x7_3) = true := decide_eq_true c42
           clear c42
           by_cases c43 : x7_3 < ((rd_L8 x4_3 (ji39)).length : Int)
           case neg => rw [if_neg c43] at H; exact absurd H (by simp)
           rw [if_pos c43] at H
           have c43b0 : decide (x7_3 < ((rd_L8 x4_3 (ji39)).length : Int)) = true := decide_eq_true c43
           clear c43
           by_cases c44 : (rd (rd_L8 x4_3 (ji39)) x7_3) < 0
           ·rw [if_pos c44] at H
            have c44b0 : decide ((rd (rd_L8 x4_3 (ji39)) x7_3) < 0) = true := decide_eq_true c44
            clear c44
            have H' := am H
            clear H
            have p222 : 0 ≤ ((ji39) : Int) := od
            have q222 : (ji39) < (x4_3.length : Int) := od
            obtain ⟨ad222, A222_0, c222_0, e222, hx222_0, hl222_0, hi222_0⟩ := at_L8 (Kd.S_reads' HO_4.out).2.2 (ji39) p222 q222
            obtain rfl : (⟨go10, 0, none⟩ : Addr) = ad222 := (by injection e222)
            obtain ⟨ce222, hce222, hMe222, hcc222⟩ := Kd.S_get HO_4.out [] (ji39) p222 (by first | exact q222 | exact od | (have e_ := (Kd.S_reads' HO_4.out).1; omega))
            obtain ⟨ve222_0, rfl, ge222_0⟩ := hMe222
            have hv222_0 := hcc222 0 _ rfl
            rw [Nat.add_zero, show ((Kd.slice 3 (Kd.int .i64))).sz = 1 from rfl, Nat.mul_one] at hv222_0
            replace hv222_0 := Option.some.inj (hv222_0.symm.trans hx222_0)
            rw [hv222_0] at ge222_0
            have HL222_0 := am (show Kd.R (Kd.int .i64) 3 _ _ _ _ (rd_L8 x4_3 (ji39)) from ge222_0)
            clear hv222_0 ge222_0
            have HX222_0 := am hx222_0
            clear hcc222 hce222
            (first | simp only [add_plain] at hx222_0 | simp only [add_at] at hx222_0 | simp only [Addr.add, Nat.zero_add] at hx222_0 | skip)
            have HR222_0 := am hi222_0
            have HC222_0 := am hl222_0
            clear hi222_0 hl222_0
            replace p222 := eq_true p222
            replace q222 := eq_true q222
            have p223 : 0 ≤ (x7_3 : Int) := od
            have q223 : x7_3 < ((rd_L8 x4_3 (ji39)).length : Int) := od
            obtain ⟨ad223, e223, hx223_0⟩ := Kd.at_int (by repeat (first | (with_reducible exact HR222_0.out) | (with_reducible refine Kd.C_alloc ?_ _) | (with_reducible refine Kd.C_drewN ?_ _) | (with_reducible refine Kd.C_drew ?_) | exact HR222_0.out)) x7_3 p223 q223
            cases e223
            replace p223 := eq_true p223
            replace q223 := eq_true q223
            go_wp2
            (try simp only [← hl4_3])
            go_roundg k3
            case measure => have := HK1.out; have := HK2.out; have := HK3.out; omega
            case rel => exact ⟨(x4_3), (wrap64 (x7_3 + 1)), (by first | rfl | simp | simp [*]), H', ⟨by have := HK1.out; have := HK2.out; have := HK3.out; omega⟩, ⟨by (try simp only [hl4_2]); (try simp only [hl4_3]); (with_reducible repeat (first | apply Kd.S_alloc | apply Kd.S_drewN | apply Kd.S_drew)); exact HO_4.out⟩, ⟨bu HB.out⟩⟩
           rw [if_neg c44] at H
           have c44b0 : decide ((rd (rd_L8 x4_3 (ji39)) x7_3) < 0) = false := decide_eq_false c44
           clear c44
           by_cases c45 : x7_3 = x6_2
           ·rw [if_pos c45] at H
            have c45b0 : (x7_3 == x6_2) = true := beq_iff_eq.mpr c45
            have c45b1 : (x7_3 != x6_2) = false := bne_eq_false_iff_eq.mpr c45
            clear c45
            by_cases c46 : 0 ≤ x5_1
            case neg => rw [if_neg c46] at H; exact absurd H (by simp)
            rw [if_pos c46] at H
            have c46b0 : decide (0 ≤ x5_1) = true := decide_eq_true c46
            clear c46
            by_cases c47 : x5_1 < (x4_3.length : Int)
            case neg => rw [if_neg c47] at H; exact absurd H (by simp)
            rw [if_pos c47] at H
            have c47b0 : decide (x5_1 < (x4_3.length : Int)) = true := decide_eq_true c47
            clear c47
            by_cases c48 : 0 ≤ x6_2
            case neg => rw [if_neg c48] at H; exact absurd H (by simp)
            rw [if_pos c48] at H
            have c48b0 : decide (0 ≤ x6_2) = true := decide_eq_true c48
            clear c48
            by_cases c49 : x6_2 < ((rd_L8 x4_3 x5_1).length : Int)
            case neg => rw [if_neg c49] at H; exact absurd H (by simp)
            rw [if_pos c49] at H
            have c49b0 : decide (x6_2 < ((rd_L8 x4_3 x5_1).length : Int)) = true := decide_eq_true c49
            clear c49
            by_cases c50 : (rd (rd_L8 x4_3 x5_1) x6_2) < 0
            ·rw [if_pos c50] at H
             have c50b0 : decide ((rd (rd_L8 x4_3 x5_1) x6_2) < 0) = true := decide_eq_true c50
             clear c50
             obtain ⟨y227, hy227⟩ : ∃ y_ : List Int, y_ = ((rd_L8 x4_3 x5_1).set (x6_2 : Int).toNat (rd (rd_L8 x4_3 (ji39)) x7_3)) := ⟨_, rfl⟩
             replace H : (spec_l2Fewest.l2 k3 l0 (l0.length : Int) (x4_3.set (x5_1 : Int).toNat y227) x5_1 x6_2 (wrap64 (x7_3 + 1))) = some r := by first | (rw [hy227]; with_reducible exact H) | (have H2_ := (Option.bind_some _ _).symm.trans H; rw [hy227]; with_reducible exact H2_) | (have H2_ := (Option.bind_some _ _).symm.trans H; with_reducible exact H2_) | with_reducible exact H | (rw [hy227]; exact H) | exact H
             have Ny227 := am hy227
             clear hy227
             obtain ⟨y229, hy229⟩ : ∃ y_ : List (List Int), y_ = (x4_3.set (x5_1 : Int).toNat y227) := ⟨_, rfl⟩
             replace H : (spec_l2Fewest.l2 k3 l0 (l0.length : Int) y229 x5_1 x6_2 (wrap64 (x7_3 + 1))) = some r := by first | (rw [hy229]; with_reducible exact H) | (have H2_ := (Option.bind_some _ _).symm.trans H; rw [hy229]; with_reducible exact H2_) | (have H2_ := (Option.bind_some _ _).symm.trans H; with_reducible exact H2_) | with_reducible exact H | (rw [hy229]; exact H) | exact H
             have Ny229 := am hy229
             clear hy229
             have H' := am H
             clear H
             have p222 : 0 ≤ ((ji39) : Int) := od
             have q222 : (ji39) < (x4_3.length : Int) := od
             obtain ⟨ad222, A222_0, c222_0, e222, hx222_0, hl222_0, hi222_0⟩ := at_L8 (Kd.S_reads' HO_4.out).2.2 (ji39) p222 q222
             obtain rfl : (⟨go10, 0, none⟩ : Addr) = ad222 := (by injection e222)
             obtain ⟨ce222, hce222, hMe222, hcc222⟩ := Kd.S_get HO_4.out [] (ji39) p222 (by first | exact q222 | exact od | (have e_ := (Kd.S_reads' HO_4.out).1; omega))
             obtain ⟨ve222_0, rfl, ge222_0⟩ := hMe222
             have hv222_0 := hcc222 0 _ rfl
             rw [Nat.add_zero, show ((Kd.slice 3 (Kd.int .i64))).sz = 1 from rfl, Nat.mul_one] at hv222_0
             replace hv222_0 := Option.some.inj (hv222_0.symm.trans hx222_0)
             rw [hv222_0] at ge222_0
             have HL222_0 := am (show Kd.R (Kd.int .i64) 3 _ _ _ _ (rd_L8 x4_3 (ji39)) from ge222_0)
             clear hv222_0 ge222_0
             have HX222_0 := am hx222_0
             clear hcc222 hce222
             (first | simp only [add_plain] at hx222_0 | simp only [add_at] at hx222_0 | simp only [Addr.add, Nat.zero_add] at hx222_0 | skip)
             have HR222_0 := am hi222_0
             have HC222_0 := am hl222_0
             clear hi222_0 hl222_0
             replace p222 := eq_true p222
             replace q222 := eq_true q222
             have p223 : 0 ≤ (x7_3 : Int) := od
             have q223 : x7_3 < ((rd_L8 x4_3 (ji39)).length : Int) := od
             obtain ⟨ad223, e223, hx223_0⟩ := Kd.at_int (by repeat (first | (with_reducible exact HR222_0.out) | (with_reducible refine Kd.C_alloc ?_ _) | (with_reducible refine Kd.C_drewN ?_ _) | (with_reducible refine Kd.C_drew ?_) | exact HR222_0.out)) x7_3 p223 q223
             cases e223
             replace p223 := eq_true p223
             replace q223 := eq_true q223
             have p224 : 0 ≤ (x5_1 : Int) := od
             have q224 : x5_1 < (x4_3.length : Int) := od
             obtain ⟨ad224, A224_0, c224_0, e224, hx224_0, hl224_0, hi224_0⟩ := at_L8 (Kd.S_reads' HO_4.out).2.2 x5_1 p224 q224
             obtain rfl : (⟨go10, 0, none⟩ : Addr) = ad224 := (by injection e224)
             obtain ⟨ce224, hce224, hMe224, hcc224⟩ := Kd.S_get HO_4.out [] x5_1 p224 (by first | exact q224 | exact od | (have e_ := (Kd.S_reads' HO_4.out).1; omega))
             obtain ⟨ve224_0, rfl, ge224_0⟩ := hMe224
             have hv224_0 := hcc224 0 _ rfl
             rw [Nat.add_zero, show ((Kd.slice 3 (Kd.int .i64))).sz = 1 from rfl, Nat.mul_one] at hv224_0
             replace hv224_0 := Option.some.inj (hv224_0.symm.trans hx224_0)
             rw [hv224_0] at ge224_0
             have HL224_0 := am (show Kd.R (Kd.int .i64) 3 _ _ _ _ (rd_L8 x4_3 x5_1) from ge224_0)
             clear hv224_0 ge224_0
             have HX224_0 := am hx224_0
             clear hcc224 hce224
             (first | simp only [add_plain] at hx224_0 | simp only [add_at] at hx224_0 | simp only [Addr.add, Nat.zero_add] at hx224_0 | skip)
             have HR224_0 := am hi224_0
             have HC224_0 := am hl224_0
             clear hi224_0 hl224_0
             replace p224 := eq_true p224
             replace q224 := eq_true q224
             have p225 : 0 ≤ (x6_2 : Int) := od
             have q225 : x6_2 < ((rd_L8 x4_3 x5_1).length : Int) := od
             obtain ⟨ad225, e225, hx225_0⟩ := Kd.at_int (by repeat (first | (with_reducible exact HR224_0.out) | (with_reducible refine Kd.C_alloc ?_ _) | (with_reducible refine Kd.C_drewN ?_ _) | (with_reducible refine Kd.C_drew ?_) | exact HR224_0.out)) x6_2 p225 q225
             cases e225
             replace p225 := eq_true p225
             replace q225 := eq_true q225
             have p226 : 0 ≤ (x5_1 : Int) := od
             have q226 : x5_1 < (x4_3.length : Int) := od
             obtain ⟨ad226, A226_0, c226_0, e226, hx226_0, hl226_0, hi226_0⟩ := at_L8 (Kd.S_reads' HO_4.out).2.2 x5_1 p226 q226
             obtain rfl : (⟨go10, 0, none⟩ : Addr) = ad226 := (by injection e226)
             obtain ⟨ce226, hce226, hMe226, hcc226⟩ := Kd.S_get HO_4.out [] x5_1 p226 (by first | exact q226 | exact od | (have e_ := (Kd.S_reads' HO_4.out).1; omega))
             obtain ⟨ve226_0, rfl, ge226_0⟩ := hMe226
             have hv226_0 := hcc226 0 _ rfl
             rw [Nat.add_zero, show ((Kd.slice 3 (Kd.int .i64))).sz = 1 from rfl, Nat.mul_one] at hv226_0
             replace hv226_0 := Option.some.inj (hv226_0.symm.trans hx226_0)
             rw [hv226_0] at ge226_0
             have HL226_0 := am (show Kd.R (Kd.int .i64) 3 _ _ _ _ (rd_L8 x4_3 x5_1) from ge226_0)
             clear hv226_0 ge226_0
             have HX226_0 := am hx226_0
             clear hcc226 hce226
             (first | simp only [add_plain] at hx226_0 | simp only [add_at] at hx226_0 | simp only [Addr.add, Nat.zero_add] at hx226_0 | skip)
             have HR226_0 := am hi226_0
             have HC226_0 := am hl226_0
             clear hi226_0 hl226_0
             replace p226 := eq_true p226
             replace q226 := eq_true q226
             have ea_ := Option.some.inj (hx224_0.symm.trans hx226_0)
             injection ea_ with ea_ en_ ec_
             subst ea_
             subst ec_
             clear en_
             have p51 : 0 ≤ (x6_2 : Int) := od
             have q51 : (x6_2 : Int) < (((rd_L8 x4_3 x5_1).length : Int) : Int) := od
             obtain ⟨go51, co51, eo51, gb51, gl51, cl51, HG51⟩ := Kd.R_form HL226_0.out (by omega)
             (first | cases eo51 | (injection eo51 with ea_ en_ ec_; (first | subst ea_ | (injection ea_ with ea_; subst ea_)); subst ec_; clear en_))
             have GB51 := am gb51
             have GG51 := am HG51
             clear gb51 gl51 HG51
             (first | simp only [add_plain] at hx225_0 | skip)
             obtain ⟨hx51_0, hf51_0⟩ := Kd.R_celln 0 HL226_0.out (x6_2 : Int) p51 q51
             replace p51 := eq_true p51
             replace q51 := eq_true q51
             have hq52 : (x5_1 : Int) < (x4_3.length : Int) := (by have h_ : (x5_1 : Int) < ((x4_3.length : Int) : Int) := od; first | exact h_ | (have e_ := (Kd.S_reads' HO_4.out).1; omega) | simpa only [List.length_set, List.length_set] using h_)
             obtain ⟨oki52, ce52, hcl52, hM52, hcc52, hok52, hbk52⟩ := Kd.S_borrow HO_4.out [] (x5_1 : Int) (od) hq52
             obtain ⟨ve52_0, rfl, ge52_0⟩ := hM52
             have hv52 := hcc52 0 _ rfl
             rw [Nat.add_zero, show ((Kd.slice 3 (Kd.int .i64))).sz = 1 from rfl, Nat.mul_one] at hv52
             replace hv52 := Option.some.inj (hv52.symm.trans HX226_0.out)
             subst hv52
             clear hcc52 hcl52
             replace ge52_0 := (show Kd.R (Kd.int .i64) 3 _ _ _ _ (rd_L8 x4_3 x5_1) from ge52_0)
             have HP52 := Kd.R_putg ge52_0 (x6_2 : Int) (rd (rd_L8 x4_3 (ji39)) x7_3)
             go_wp2_with ((with_reducible refine gate_store (t := 3) (p := 94) rfl ?_); refine store_event (t := 3) (p := 94) (v := ?vo_w53) (w1 := (wr.setCell ⟨go51, (x6_2 : Int).toNat, none⟩ (.int .i64 (rd (rd_L8 x4_3 (ji39)) x7_3)))) ?hg ?ho ?hn ?hr ?_; (case ho => rfl); (case hg => rfl); (case hn => rfl); (case hr => first | (go_simp; done) | (go_simp; rfl)); intro w53 hw; have hg : wr.grownBy w53 (some go51) := (by rw [hw]; exact HP52.2); have hz_ : Kd.R (Kd.int .i64) 3 w53 w.heap.size oki52 (.slice (some ⟨go51, 0, none⟩) (rd_L8 x4_3 x5_1).length c224_0) y227 := (by rw [hw, Ny227.out]; exact HP52.1); have hp_ : Kd.S (Kd.slice 3 (Kd.int .i64)) 28 w53 w.heap.size (fun _ => True) (.slice (some ⟨go10, 0, none⟩) x4_3.length co10) y229 := (by rw [Ny229.out]; exact hbk52 hg (fun k_ e_ => by injection e_ with e_; subst e_; exact ge52_0.1 _ rfl) (Kd.M_row hz_)); have hm_ := Kd.R_mono hz_ hok52; clear HP52 hbk52; have n0_ := am (hp_); have n1_ := am ((by rw [hw]; exact below_set (HB.out) GB51.out : Below w.heap.size w w53)); have n2_ := am (hm_); have n3_ := am ((Kd.R_reads' hm_).2.1); clear HO_4; clear HB; clear HL222_0; clear HL224_0; clear HL226_0; have HO_4 := n0_; have HB := n1_; have HL252 := n2_; have HC228 := n3_; clear n0_ n1_ n2_ n3_; clear hg hw hp_ hz_ hm_ hok52)
             (try simp only [← hl4_3])
             go_roundg k3
             case measure => have := HK1.out; have := HK2.out; have := HK3.out; omega
             case rel => exact ⟨(y229), (wrap64 (x7_3 + 1)), (by first | rfl | simp | simp [*]), H', ⟨by have := HK1.out; have := HK2.out; have := HK3.out; omega⟩, ⟨by (try simp only [hl4_2]); (try simp only [hl4_3]); (with_reducible repeat (first | apply Kd.S_alloc | apply Kd.S_drewN | apply Kd.S_drew)); exact HO_4.out⟩, ⟨bu HB.out⟩⟩
            rw [if_neg c50] at H
            have c50b0 : decide ((rd (rd_L8 x4_3 x5_1) x6_2) < 0) = false := decide_eq_false c50
            clear c50
            by_cases c54 : (rd (rd_L8 x4_3 (ji39)) x7_3) < (rd (rd_L8 x4_3 x5_1) x6_2)
            ·rw [if_pos c54] at H
             have c54b0 : decide ((rd (rd_L8 x4_3 (ji39)) x7_3) < (rd (rd_L8 x4_3 x5_1) x6_2)) = true := decide_eq_true c54
             clear c54
             obtain ⟨y233, hy233⟩ : ∃ y_ : List Int, y_ = ((rd_L8 x4_3 x5_1).set (x6_2 : Int).toNat (rd (rd_L8 x4_3 (ji39)) x7_3)) := ⟨_, rfl⟩
             replace H : (spec_l2Fewest.l2 k3 l0 (l0.length : Int) (x4_3.set (x5_1 : Int).toNat y233) x5_1 x6_2 (wrap64 (x7_3 + 1))) = some r := by first | (rw [hy233]; with_reducible exact H) | (have H2_ := (Option.bind_some _ _).symm.trans H; rw [hy233]; with_reducible exact H2_) | (have H2_ := (Option.bind_some _ _).symm.trans H; with_reducible exact H2_) | with_reducible exact H | (rw [hy233]; exact H) | exact H
             have Ny233 := am hy233
             clear hy233
             obtain ⟨y235, hy235⟩ : ∃ y_ : List (List Int), y_ = (x4_3.set (x5_1 : Int).toNat y233) := ⟨_, rfl⟩
             replace H : (spec_l2Fewest.l2 k3 l0 (l0.length : Int) y235 x5_1 x6_2 (wrap64 (x7_3 + 1))) = some r := by first | (rw [hy235]; with_reducible exact H) | (have H2_ := (Option.bind_some _ _).symm.trans H; rw [hy235]; with_reducible exact H2_) | (have H2_ := (Option.bind_some _ _).symm.trans H; with_reducible exact H2_) | with_reducible exact H | (rw [hy235]; exact H) | exact H
             have Ny235 := am hy235
             clear hy235
             have H' := am H
             clear H
             have p222 : 0 ≤ ((ji39) : Int) := od
             have q222 : (ji39) < (x4_3.length : Int) := od
             obtain ⟨ad222, A222_0, c222_0, e222, hx222_0, hl222_0, hi222_0⟩ := at_L8 (Kd.S_reads' HO_4.out).2.2 (ji39) p222 q222
             obtain rfl : (⟨go10, 0, none⟩ : Addr) = ad222 := (by injection e222)
             obtain ⟨ce222, hce222, hMe222, hcc222⟩ := Kd.S_get HO_4.out [] (ji39) p222 (by first | exact q222 | exact od | (have e_ := (Kd.S_reads' HO_4.out).1; omega))
             obtain ⟨ve222_0, rfl, ge222_0⟩ := hMe222
             have hv222_0 := hcc222 0 _ rfl
             rw [Nat.add_zero, show ((Kd.slice 3 (Kd.int .i64))).sz = 1 from rfl, Nat.mul_one] at hv222_0
             replace hv222_0 := Option.some.inj (hv222_0.symm.trans hx222_0)
             rw [hv222_0] at ge222_0
             have HL222_0 := am (show Kd.R (Kd.int .i64) 3 _ _ _ _ (rd_L8 x4_3 (ji39)) from ge222_0)
             clear hv222_0 ge222_0
             have HX222_0 := am hx222_0
             clear hcc222 hce222
             (first | simp only [add_plain] at hx222_0 | simp only [add_at] at hx222_0 | simp only [Addr.add, Nat.zero_add] at hx222_0 | skip)
             have HR222_0 := am hi222_0
             have HC222_0 := am hl222_0
             clear hi222_0 hl222_0
             replace p222 := eq_true p222
             replace q222 := eq_true q222
             have p223 : 0 ≤ (x7_3 : Int) := od
             have q223 : x7_3 < ((rd_L8 x4_3 (ji39)).length : Int) := od
             obtain ⟨ad223, e223, hx223_0⟩ := Kd.at_int (by repeat (first | (with_reducible exact HR222_0.out) | (with_reducible refine Kd.C_alloc ?_ _) | (with_reducible refine Kd.C_drewN ?_ _) | (with_reducible refine Kd.C_drew ?_) | exact HR222_0.out)) x7_3 p223 q223
             cases e223
             replace p223 := eq_true p223
             replace q223 := eq_true q223
             have p224 : 0 ≤ (x5_1 : Int) := od
             have q224 : x5_1 < (x4_3.length : Int) := od
             obtain ⟨ad224, A224_0, c224_0, e224, hx224_0, hl224_0, hi224_0⟩ := at_L8 (Kd.S_reads' HO_4.out).2.2 x5_1 p224 q224
             obtain rfl : (⟨go10, 0, none⟩ : Addr) = ad224 := (by injection e224)
             obtain ⟨ce224, hce224, hMe224, hcc224⟩ := Kd.S_get HO_4.out [] x5_1 p224 (by first | exact q224 | exact od | (have e_ := (Kd.S_reads' HO_4.out).1; omega))
             obtain ⟨ve224_0, rfl, ge224_0⟩ := hMe224
             have hv224_0 := hcc224 0 _ rfl
             rw [Nat.add_zero, show ((Kd.slice 3 (Kd.int .i64))).sz = 1 from rfl, Nat.mul_one] at hv224_0
             replace hv224_0 := Option.some.inj (hv224_0.symm.trans hx224_0)
             rw [hv224_0] at ge224_0
             have HL224_0 := am (show Kd.R (Kd.int .i64) 3 _ _ _ _ (rd_L8 x4_3 x5_1) from ge224_0)
             clear hv224_0 ge224_0
             have HX224_0 := am hx224_0
             clear hcc224 hce224
             (first | simp only [add_plain] at hx224_0 | simp only [add_at] at hx224_0 | simp only [Addr.add, Nat.zero_add] at hx224_0 | skip)
             have HR224_0 := am hi224_0
             have HC224_0 := am hl224_0
             clear hi224_0 hl224_0
             replace p224 := eq_true p224
             replace q224 := eq_true q224
             have p225 : 0 ≤ (x6_2 : Int) := od
             have q225 : x6_2 < ((rd_L8 x4_3 x5_1).length : Int) := od
             obtain ⟨ad225, e225, hx225_0⟩ := Kd.at_int (by repeat (first | (with_reducible exact HR224_0.out) | (with_reducible refine Kd.C_alloc ?_ _) | (with_reducible refine Kd.C_drewN ?_ _) | (with_reducible refine Kd.C_drew ?_) | exact HR224_0.out)) x6_2 p225 q225
             cases e225
             replace p225 := eq_true p225
             replace q225 := eq_true q225
             have p230 : 0 ≤ (x5_1 : Int) := od
             have q230 : x5_1 < (x4_3.length : Int) := od
             obtain ⟨ad230, A230_0, c230_0, e230, hx230_0, hl230_0, hi230_0⟩ := at_L8 (Kd.S_reads' HO_4.out).2.2 x5_1 p230 q230
             obtain rfl : (⟨go10, 0, none⟩ : Addr) = ad230 := (by injection e230)
             obtain ⟨ce230, hce230, hMe230, hcc230⟩ := Kd.S_get HO_4.out [] x5_1 p230 (by first | exact q230 | exact od | (have e_ := (Kd.S_reads' HO_4.out).1; omega))
             obtain ⟨ve230_0, rfl, ge230_0⟩ := hMe230
             have hv230_0 := hcc230 0 _ rfl
             rw [Nat.add_zero, show ((Kd.slice 3 (Kd.int .i64))).sz = 1 from rfl, Nat.mul_one] at hv230_0
             replace hv230_0 := Option.some.inj (hv230_0.symm.trans hx230_0)
             rw [hv230_0] at ge230_0
             have HL230_0 := am (show Kd.R (Kd.int .i64) 3 _ _ _ _ (rd_L8 x4_3 x5_1) from ge230_0)
             clear hv230_0 ge230_0
             have HX230_0 := am hx230_0
             clear hcc230 hce230
             (first | simp only [add_plain] at hx230_0 | simp only [add_at] at hx230_0 | simp only [Addr.add, Nat.zero_add] at hx230_0 | skip)
             have HR230_0 := am hi230_0
             have HC230_0 := am hl230_0
             clear hi230_0 hl230_0
             replace p230 := eq_true p230
             replace q230 := eq_true q230
             have ea_ := Option.some.inj (hx224_0.symm.trans hx230_0)
             injection ea_ with ea_ en_ ec_
             subst ea_
             subst ec_
             clear en_
             have p231 : 0 ≤ (x6_2 : Int) := od
             have q231 : x6_2 < ((rd_L8 x4_3 x5_1).length : Int) := od
             obtain ⟨ad231, e231, hx231_0⟩ := Kd.at_int (by repeat (first | (with_reducible exact HR230_0.out) | (with_reducible refine Kd.C_alloc ?_ _) | (with_reducible refine Kd.C_drewN ?_ _) | (with_reducible refine Kd.C_drew ?_) | exact HR230_0.out)) x6_2 p231 q231
             cases e231
             replace p231 := eq_true p231
             replace q231 := eq_true q231
             have p232 : 0 ≤ (x5_1 : Int) := od
             have q232 : x5_1 < (x4_3.length : Int) := od
             obtain ⟨ad232, A232_0, c232_0, e232, hx232_0, hl232_0, hi232_0⟩ := at_L8 (Kd.S_reads' HO_4.out).2.2 x5_1 p232 q232
             obtain rfl : (⟨go10, 0, none⟩ : Addr) = ad232 := (by injection e232)
             obtain ⟨ce232, hce232, hMe232, hcc232⟩ := Kd.S_get HO_4.out [] x5_1 p232 (by first | exact q232 | exact od | (have e_ := (Kd.S_reads' HO_4.out).1; omega))
             obtain ⟨ve232_0, rfl, ge232_0⟩ := hMe232
             have hv232_0 := hcc232 0 _ rfl
             rw [Nat.add_zero, show ((Kd.slice 3 (Kd.int .i64))).sz = 1 from rfl, Nat.mul_one] at hv232_0
             replace hv232_0 := Option.some.inj (hv232_0.symm.trans hx232_0)
             rw [hv232_0] at ge232_0
             have HL232_0 := am (show Kd.R (Kd.int .i64) 3 _ _ _ _ (rd_L8 x4_3 x5_1) from ge232_0)
             clear hv232_0 ge232_0
             have HX232_0 := am hx232_0
             clear hcc232 hce232
             (first | simp only [add_plain] at hx232_0 | simp only [add_at] at hx232_0 | simp only [Addr.add, Nat.zero_add] at hx232_0 | skip)
             have HR232_0 := am hi232_0
             have HC232_0 := am hl232_0
             clear hi232_0 hl232_0
             replace p232 := eq_true p232
             replace q232 := eq_true q232
             have ea_ := Option.some.inj (hx224_0.symm.trans hx232_0)
             injection ea_ with ea_ en_ ec_
             subst ea_
             subst ec_
             clear en_
             have p55 : 0 ≤ (x6_2 : Int) := od
             have q55 : (x6_2 : Int) < (((rd_L8 x4_3 x5_1).length : Int) : Int) := od
             obtain ⟨go55, co55, eo55, gb55, gl55, cl55, HG55⟩ := Kd.R_form HL232_0.out (by omega)
             (first | cases eo55 | (injection eo55 with ea_ en_ ec_; (first | subst ea_ | (injection ea_ with ea_; subst ea_)); subst ec_; clear en_))
             have GB55 := am gb55
             have GG55 := am HG55
             clear gb55 gl55 HG55
             (first | simp only [add_plain] at hx231_0 | skip)
             obtain ⟨hx55_0, hf55_0⟩ := Kd.R_celln 0 HL232_0.out (x6_2 : Int) p55 q55
             replace p55 := eq_true p55
             replace q55 := eq_true q55
             have hq56 : (x5_1 : Int) < (x4_3.length : Int) := (by have h_ : (x5_1 : Int) < ((x4_3.length : Int) : Int) := od; first | exact h_ | (have e_ := (Kd.S_reads' HO_4.out).1; omega) | simpa only [List.length_set, List.length_set] using h_)
             obtain ⟨oki56, ce56, hcl56, hM56, hcc56, hok56, hbk56⟩ := Kd.S_borrow HO_4.out [] (x5_1 : Int) (od) hq56
             obtain ⟨ve56_0, rfl, ge56_0⟩ := hM56
             have hv56 := hcc56 0 _ rfl
             rw [Nat.add_zero, show ((Kd.slice 3 (Kd.int .i64))).sz = 1 from rfl, Nat.mul_one] at hv56
             replace hv56 := Option.some.inj (hv56.symm.trans HX232_0.out)
             subst hv56
             clear hcc56 hcl56
             replace ge56_0 := (show Kd.R (Kd.int .i64) 3 _ _ _ _ (rd_L8 x4_3 x5_1) from ge56_0)
             have HP56 := Kd.R_putg ge56_0 (x6_2 : Int) (rd (rd_L8 x4_3 (ji39)) x7_3)
             go_wp2_with ((with_reducible refine gate_store (t := 3) (p := 94) rfl ?_); refine store_event (t := 3) (p := 94) (v := ?vo_w57) (w1 := (wr.setCell ⟨go55, (x6_2 : Int).toNat, none⟩ (.int .i64 (rd (rd_L8 x4_3 (ji39)) x7_3)))) ?hg ?ho ?hn ?hr ?_; (case ho => rfl); (case hg => rfl); (case hn => rfl); (case hr => first | (go_simp; done) | (go_simp; rfl)); intro w57 hw; have hg : wr.grownBy w57 (some go55) := (by rw [hw]; exact HP56.2); have hz_ : Kd.R (Kd.int .i64) 3 w57 w.heap.size oki56 (.slice (some ⟨go55, 0, none⟩) (rd_L8 x4_3 x5_1).length c224_0) y233 := (by rw [hw, Ny233.out]; exact HP56.1); have hp_ : Kd.S (Kd.slice 3 (Kd.int .i64)) 28 w57 w.heap.size (fun _ => True) (.slice (some ⟨go10, 0, none⟩) x4_3.length co10) y235 := (by rw [Ny235.out]; exact hbk56 hg (fun k_ e_ => by injection e_ with e_; subst e_; exact ge56_0.1 _ rfl) (Kd.M_row hz_)); have hm_ := Kd.R_mono hz_ hok56; clear HP56 hbk56; have n0_ := am (hp_); have n1_ := am ((by rw [hw]; exact below_set (HB.out) GB55.out : Below w.heap.size w w57)); have n2_ := am (hm_); have n3_ := am ((Kd.R_reads' hm_).2.1); clear HO_4; clear HB; clear HL222_0; clear HL224_0; clear HL230_0; clear HL232_0; have HO_4 := n0_; have HB := n1_; have HL253 := n2_; have HC234 := n3_; clear n0_ n1_ n2_ n3_; clear hg hw hp_ hz_ hm_ hok56)
             (try simp only [← hl4_3])
             go_roundg k3
             case measure => have := HK1.out; have := HK2.out; have := HK3.out; omega
             case rel => exact ⟨(y235), (wrap64 (x7_3 + 1)), (by first | rfl | simp | simp [*]), H', ⟨by have := HK1.out; have := HK2.out; have := HK3.out; omega⟩, ⟨by (try simp only [hl4_2]); (try simp only [hl4_3]); (with_reducible repeat (first | apply Kd.S_alloc | apply Kd.S_drewN | apply Kd.S_drew)); exact HO_4.out⟩, ⟨bu HB.out⟩⟩
            rw [if_neg c54] at H
            have c54b0 : decide ((rd (rd_L8 x4_3 (ji39)) x7_3) < (rd (rd_L8 x4_3 x5_1) x6_2)) = false := decide_eq_false c54
            clear c54
            have H' := am H
            clear H
            have p222 : 0 ≤ ((ji39) : Int) := od
            have q222 : (ji39) < (x4_3.length : Int) := od
            obtain ⟨ad222, A222_0, c222_0, e222, hx222_0, hl222_0, hi222_0⟩ := at_L8 (Kd.S_reads' HO_4.out).2.2 (ji39) p222 q222
            obtain rfl : (⟨go10, 0, none⟩ : Addr) = ad222 := (by injection e222)
            obtain ⟨ce222, hce222, hMe222, hcc222⟩ := Kd.S_get HO_4.out [] (ji39) p222 (by first | exact q222 | exact od | (have e_ := (Kd.S_reads' HO_4.out).1; omega))
            obtain ⟨ve222_0, rfl, ge222_0⟩ := hMe222
            have hv222_0 := hcc222 0 _ rfl
            rw [Nat.add_zero, show ((Kd.slice 3 (Kd.int .i64))).sz = 1 from rfl, Nat.mul_one] at hv222_0
            replace hv222_0 := Option.some.inj (hv222_0.symm.trans hx222_0)
            rw [hv222_0] at ge222_0
            have HL222_0 := am (show Kd.R (Kd.int .i64) 3 _ _ _ _ (rd_L8 x4_3 (ji39)) from ge222_0)
            clear hv222_0 ge222_0
            have HX222_0 := am hx222_0
            clear hcc222 hce222
            (first | simp only [add_plain] at hx222_0 | simp only [add_at] at hx222_0 | simp only [Addr.add, Nat.zero_add] at hx222_0 | skip)
            have HR222_0 := am hi222_0
            have HC222_0 := am hl222_0
            clear hi222_0 hl222_0
            replace p222 := eq_true p222
            replace q222 := eq_true q222
            have p223 : 0 ≤ (x7_3 : Int) := od
            have q223 : x7_3 < ((rd_L8 x4_3 (ji39)).length : Int) := od
            obtain ⟨ad223, e223, hx223_0⟩ := Kd.at_int (by repeat (first | (with_reducible exact HR222_0.out) | (with_reducible refine Kd.C_alloc ?_ _) | (with_reducible refine Kd.C_drewN ?_ _) | (with_reducible refine Kd.C_drew ?_) | exact HR222_0.out)) x7_3 p223 q223
            cases e223
            replace p223 := eq_true p223
            replace q223 := eq_true q223
            have p224 : 0 ≤ (x5_1 : Int) := od
            have q224 : x5_1 < (x4_3.length : Int) := od
            obtain ⟨ad224, A224_0, c224_0, e224, hx224_0, hl224_0, hi224_0⟩ := at_L8 (Kd.S_reads' HO_4.out).2.2 x5_1 p224 q224
            obtain rfl : (⟨go10, 0, none⟩ : Addr) = ad224 := (by injection e224)
            obtain ⟨ce224, hce224, hMe224, hcc224⟩ := Kd.S_get HO_4.out [] x5_1 p224 (by first | exact q224 | exact od | (have e_ := (Kd.S_reads' HO_4.out).1; omega))
            obtain ⟨ve224_0, rfl, ge224_0⟩ := hMe224
            have hv224_0 := hcc224 0 _ rfl
            rw [Nat.add_zero, show ((Kd.slice 3 (Kd.int .i64))).sz = 1 from rfl, Nat.mul_one] at hv224_0
            replace hv224_0 := Option.some.inj (hv224_0.symm.trans hx224_0)
            rw [hv224_0] at ge224_0
            have HL224_0 := am (show Kd.R (Kd.int .i64) 3 _ _ _ _ (rd_L8 x4_3 x5_1) from ge224_0)
            clear hv224_0 ge224_0
            have HX224_0 := am hx224_0
            clear hcc224 hce224
            (first | simp only [add_plain] at hx224_0 | simp only [add_at] at hx224_0 | simp only [Addr.add, Nat.zero_add] at hx224_0 | skip)
            have HR224_0 := am hi224_0
            have HC224_0 := am hl224_0
            clear hi224_0 hl224_0
            replace p224 := eq_true p224
            replace q224 := eq_true q224
            have p225 : 0 ≤ (x6_2 : Int) := od
            have q225 : x6_2 < ((rd_L8 x4_3 x5_1).length : Int) := od
            obtain ⟨ad225, e225, hx225_0⟩ := Kd.at_int (by repeat (first | (with_reducible exact HR224_0.out) | (with_reducible refine Kd.C_alloc ?_ _) | (with_reducible refine Kd.C_drewN ?_ _) | (with_reducible refine Kd.C_drew ?_) | exact HR224_0.out)) x6_2 p225 q225
            cases e225
            replace p225 := eq_true p225
            replace q225 := eq_true q225
            have p230 : 0 ≤ (x5_1 : Int) := od
            have q230 : x5_1 < (x4_3.length : Int) := od
            obtain ⟨ad230, A230_0, c230_0, e230, hx230_0, hl230_0, hi230_0⟩ := at_L8 (Kd.S_reads' HO_4.out).2.2 x5_1 p230 q230
            obtain rfl : (⟨go10, 0, none⟩ : Addr) = ad230 := (by injection e230)
            obtain ⟨ce230, hce230, hMe230, hcc230⟩ := Kd.S_get HO_4.out [] x5_1 p230 (by first | exact q230 | exact od | (have e_ := (Kd.S_reads' HO_4.out).1; omega))
            obtain ⟨ve230_0, rfl, ge230_0⟩ := hMe230
            have hv230_0 := hcc230 0 _ rfl
            rw [Nat.add_zero, show ((Kd.slice 3 (Kd.int .i64))).sz = 1 from rfl, Nat.mul_one] at hv230_0
            replace hv230_0 := Option.some.inj (hv230_0.symm.trans hx230_0)
            rw [hv230_0] at ge230_0
            have HL230_0 := am (show Kd.R (Kd.int .i64) 3 _ _ _ _ (rd_L8 x4_3 x5_1) from ge230_0)
            clear hv230_0 ge230_0
            have HX230_0 := am hx230_0
            clear hcc230 hce230
            (first | simp only [add_plain] at hx230_0 | simp only [add_at] at hx230_0 | simp only [Addr.add, Nat.zero_add] at hx230_0 | skip)
            have HR230_0 := am hi230_0
            have HC230_0 := am hl230_0
            clear hi230_0 hl230_0
            replace p230 := eq_true p230
            replace q230 := eq_true q230
            have ea_ := Option.some.inj (hx224_0.symm.trans hx230_0)
            injection ea_ with ea_ en_ ec_
            subst ea_
            subst ec_
            clear en_
            have p231 : 0 ≤ (x6_2 : Int) := od
            have q231 : x6_2 < ((rd_L8 x4_3 x5_1).length : Int) := od
            obtain ⟨ad231, e231, hx231_0⟩ := Kd.at_int (by repeat (first | (with_reducible exact HR230_0.out) | (with_reducible refine Kd.C_alloc ?_ _) | (with_reducible refine Kd.C_drewN ?_ _) | (with_reducible refine Kd.C_drew ?_) | exact HR230_0.out)) x6_2 p231 q231
            cases e231
            replace p231 := eq_true p231
            replace q231 := eq_true q231
            go_wp2
            (try simp only [← hl4_3])
            go_roundg k3
            case measure => have := HK1.out; have := HK2.out; have := HK3.out; omega
            case rel => exact ⟨(x4_3), (wrap64 (x7_3 + 1)), (by first | rfl | simp | simp [*]), H', ⟨by have := HK1.out; have := HK2.out; have := HK3.out; omega⟩, ⟨by (try simp only [hl4_2]); (try simp only [hl4_3]); (with_reducible repeat (first | apply Kd.S_alloc | apply Kd.S_drewN | apply Kd.S_drew)); exact HO_4.out⟩, ⟨bu HB.out⟩⟩
           rw [if_neg c45] at H
           have c45b0 : (x7_3 == x6_2) = false := beq_eq_false_iff_ne.mpr c45
           have c45b1 : (x7_3 != x6_2) = true := bne_iff_ne.mpr c45
           by_cases c58 : 0 ≤ x5_1
           case neg => rw [if_neg c58] at H; exact absurd H (by simp)
           rw [if_pos c58] at H
           have c58b0 : decide (0 ≤ x5_1) = true := decide_eq_true c58
           clear c58
           by_cases c59 : x5_1 < (x4_3.length : Int)
           case neg => rw [if_neg c59] at H; exact absurd H (by simp)
           rw [if_pos c59] at H
           have c59b0 : decide (x5_1 < (x4_3.length : Int)) = true := decide_eq_true c59
           clear c59
           by_cases c60 : 0 ≤ x6_2
           case neg => rw [if_neg c60] at H; exact absurd H (by simp)
           rw [if_pos c60] at H
           have c60b0 : decide (0 ≤ x6_2) = true := decide_eq_true c60
           clear c60
           by_cases c61 : x6_2 < ((rd_L8 x4_3 x5_1).length : Int)
           case neg => rw [if_neg c61] at H; exact absurd H (by simp)
           rw [if_pos c61] at H
           have c61b0 : decide (x6_2 < ((rd_L8 x4_3 x5_1).length : Int)) = true := decide_eq_true c61
           clear c61
           by_cases c62 : (rd (rd_L8 x4_3 x5_1) x6_2) < 0
           ·rw [if_pos c62] at H
            have c62b0 : decide ((rd (rd_L8 x4_3 x5_1) x6_2) < 0) = true := decide_eq_true c62
            clear c62
            obtain ⟨y239, hy239⟩ : ∃ y_ : List Int, y_ = ((rd_L8 x4_3 x5_1).set (x6_2 : Int).toNat (wrap64 ((rd (rd_L8 x4_3 (ji39)) x7_3) + 1))) := ⟨_, rfl⟩
            replace H : (spec_l2Fewest.l2 k3 l0 (l0.length : Int) (x4_3.set (x5_1 : Int).toNat y239) x5_1 x6_2 (wrap64 (x7_3 + 1))) = some r := by first | (rw [hy239]; with_reducible exact H) | (have H2_ := (Option.bind_some _ _).symm.trans H; rw [hy239]; with_reducible exact H2_) | (have H2_ := (Option.bind_some _ _).symm.trans H; with_reducible exact H2_) | with_reducible exact H | (rw [hy239]; exact H) | exact H
            have Ny239 := am hy239
            clear hy239
            obtain ⟨y241, hy241⟩ : ∃ y_ : List (List Int), y_ = (x4_3.set (x5_1 : Int).toNat y239) := ⟨_, rfl⟩
            replace H : (spec_l2Fewest.l2 k3 l0 (l0.length : Int) y241 x5_1 x6_2 (wrap64 (x7_3 + 1))) = some r := by first | (rw [hy241]; with_reducible exact H) | (have H2_ := (Option.bind_some _ _).symm.trans H; rw [hy241]; with_reducible exact H2_) | (have H2_ := (Option.bind_some _ _).symm.trans H; with_reducible exact H2_) | with_reducible exact H | (rw [hy241]; exact H) | exact H
            have Ny241 := am hy241
            clear hy241
            have H' := am H
            clear H
            have p222 : 0 ≤ ((ji39) : Int) := od
            have q222 : (ji39) < (x4_3.length : Int) := od
            obtain ⟨ad222, A222_0, c222_0, e222, hx222_0, hl222_0, hi222_0⟩ := at_L8 (Kd.S_reads' HO_4.out).2.2 (ji39) p222 q222
            obtain rfl : (⟨go10, 0, none⟩ : Addr) = ad222 := (by injection e222)
            obtain ⟨ce222, hce222, hMe222, hcc222⟩ := Kd.S_get HO_4.out [] (ji39) p222 (by first | exact q222 | exact od | (have e_ := (Kd.S_reads' HO_4.out).1; omega))
            obtain ⟨ve222_0, rfl, ge222_0⟩ := hMe222
            have hv222_0 := hcc222 0 _ rfl
            rw [Nat.add_zero, show ((Kd.slice 3 (Kd.int .i64))).sz = 1 from rfl, Nat.mul_one] at hv222_0
            replace hv222_0 := Option.some.inj (hv222_0.symm.trans hx222_0)
            rw [hv222_0] at ge222_0
            have HL222_0 := am (show Kd.R (Kd.int .i64) 3 _ _ _ _ (rd_L8 x4_3 (ji39)) from ge222_0)
            clear hv222_0 ge222_0
            have HX222_0 := am hx222_0
            clear hcc222 hce222
            (first | simp only [add_plain] at hx222_0 | simp only [add_at] at hx222_0 | simp only [Addr.add, Nat.zero_add] at hx222_0 | skip)
            have HR222_0 := am hi222_0
            have HC222_0 := am hl222_0
            clear hi222_0 hl222_0
            replace p222 := eq_true p222
            replace q222 := eq_true q222
            have p223 : 0 ≤ (x7_3 : Int) := od
            have q223 : x7_3 < ((rd_L8 x4_3 (ji39)).length : Int) := od
            obtain ⟨ad223, e223, hx223_0⟩ := Kd.at_int (by repeat (first | (with_reducible exact HR222_0.out) | (with_reducible refine Kd.C_alloc ?_ _) | (with_reducible refine Kd.C_drewN ?_ _) | (with_reducible refine Kd.C_drew ?_) | exact HR222_0.out)) x7_3 p223 q223
            cases e223
            replace p223 := eq_true p223
            replace q223 := eq_true q223
            have p236 : 0 ≤ (x5_1 : Int) := od
            have q236 : x5_1 < (x4_3.length : Int) := od
            obtain ⟨ad236, A236_0, c236_0, e236, hx236_0, hl236_0, hi236_0⟩ := at_L8 (Kd.S_reads' HO_4.out).2.2 x5_1 p236 q236
            obtain rfl : (⟨go10, 0, none⟩ : Addr) = ad236 := (by injection e236)
            obtain ⟨ce236, hce236, hMe236, hcc236⟩ := Kd.S_get HO_4.out [] x5_1 p236 (by first | exact q236 | exact od | (have e_ := (Kd.S_reads' HO_4.out).1; omega))
            obtain ⟨ve236_0, rfl, ge236_0⟩ := hMe236
            have hv236_0 := hcc236 0 _ rfl
            rw [Nat.add_zero, show ((Kd.slice 3 (Kd.int .i64))).sz = 1 from rfl, Nat.mul_one] at hv236_0
            replace hv236_0 := Option.some.inj (hv236_0.symm.trans hx236_0)
            rw [hv236_0] at ge236_0
            have HL236_0 := am (show Kd.R (Kd.int .i64) 3 _ _ _ _ (rd_L8 x4_3 x5_1) from ge236_0)
            clear hv236_0 ge236_0
            have HX236_0 := am hx236_0
            clear hcc236 hce236
            (first | simp only [add_plain] at hx236_0 | simp only [add_at] at hx236_0 | simp only [Addr.add, Nat.zero_add] at hx236_0 | skip)
            have HR236_0 := am hi236_0
            have HC236_0 := am hl236_0
            clear hi236_0 hl236_0
            replace p236 := eq_true p236
            replace q236 := eq_true q236
            have p237 : 0 ≤ (x6_2 : Int) := od
            have q237 : x6_2 < ((rd_L8 x4_3 x5_1).length : Int) := od
            obtain ⟨ad237, e237, hx237_0⟩ := Kd.at_int (by repeat (first | (with_reducible exact HR236_0.out) | (with_reducible refine Kd.C_alloc ?_ _) | (with_reducible refine Kd.C_drewN ?_ _) | (with_reducible refine Kd.C_drew ?_) | exact HR236_0.out)) x6_2 p237 q237
            cases e237
            replace p237 := eq_true p237
            replace q237 := eq_true q237
            have p238 : 0 ≤ (x5_1 : Int) := od
            have q238 : x5_1 < (x4_3.length : Int) := od
            obtain ⟨ad238, A238_0, c238_0, e238, hx238_0, hl238_0, hi238_0⟩ := at_L8 (Kd.S_reads' HO_4.out).2.2 x5_1 p238 q238
            obtain rfl : (⟨go10, 0, none⟩ : Addr) = ad238 := (by injection e238)
            obtain ⟨ce238, hce238, hMe238, hcc238⟩ := Kd.S_get HO_4.out [] x5_1 p238 (by first | exact q238 | exact od | (have e_ := (Kd.S_reads' HO_4.out).1; omega))
            obtain ⟨ve238_0, rfl, ge238_0⟩ := hMe238
            have hv238_0 := hcc238 0 _ rfl
            rw [Nat.add_zero, show ((Kd.slice 3 (Kd.int .i64))).sz = 1 from rfl, Nat.mul_one] at hv238_0
            replace hv238_0 := Option.some.inj (hv238_0.symm.trans hx238_0)
            rw [hv238_0] at ge238_0
            have HL238_0 := am (show Kd.R (Kd.int .i64) 3 _ _ _ _ (rd_L8 x4_3 x5_1) from ge238_0)
            clear hv238_0 ge238_0
            have HX238_0 := am hx238_0
            clear hcc238 hce238
            (first | simp only [add_plain] at hx238_0 | simp only [add_at] at hx238_0 | simp only [Addr.add, Nat.zero_add] at hx238_0 | skip)
            have HR238_0 := am hi238_0
            have HC238_0 := am hl238_0
            clear hi238_0 hl238_0
            replace p238 := eq_true p238
            replace q238 := eq_true q238
            have ea_ := Option.some.inj (hx236_0.symm.trans hx238_0)
            injection ea_ with ea_ en_ ec_
            subst ea_
            subst ec_
            clear en_
            have p63 : 0 ≤ (x6_2 : Int) := od
            have q63 : (x6_2 : Int) < (((rd_L8 x4_3 x5_1).length : Int) : Int) := od
            obtain ⟨go63, co63, eo63, gb63, gl63, cl63, HG63⟩ := Kd.R_form HL238_0.out (by omega)
            (first | cases eo63 | (injection eo63 with ea_ en_ ec_; (first | subst ea_ | (injection ea_ with ea_; subst ea_)); subst ec_; clear en_))
            have GB63 := am gb63
            have GG63 := am HG63
            clear gb63 gl63 HG63
            (first | simp only [add_plain] at hx237_0 | skip)
            obtain ⟨hx63_0, hf63_0⟩ := Kd.R_celln 0 HL238_0.out (x6_2 : Int) p63 q63
            replace p63 := eq_true p63
            replace q63 := eq_true q63
            have hq64 : (x5_1 : Int) < (x4_3.length : Int) := (by have h_ : (x5_1 : Int) < ((x4_3.length : Int) : Int) := od; first | exact h_ | (have e_ := (Kd.S_reads' HO_4.out).1; omega) | simpa only [List.length_set, List.length_set] using h_)
            obtain ⟨oki64, ce64, hcl64, hM64, hcc64, hok64, hbk64⟩ := Kd.S_borrow HO_4.out [] (x5_1 : Int) (od) hq64
            obtain ⟨ve64_0, rfl, ge64_0⟩ := hM64
            have hv64 := hcc64 0 _ rfl
            rw [Nat.add_zero, show ((Kd.slice 3 (Kd.int .i64))).sz = 1 from rfl, Nat.mul_one] at hv64
            replace hv64 := Option.some.inj (hv64.symm.trans HX238_0.out)
            subst hv64
            clear hcc64 hcl64
            replace ge64_0 := (show Kd.R (Kd.int .i64) 3 _ _ _ _ (rd_L8 x4_3 x5_1) from ge64_0)
            have HP64 := Kd.R_putg ge64_0 (x6_2 : Int) (wrap64 ((rd (rd_L8 x4_3 (ji39)) x7_3) + 1))
            go_wp2_with ((with_reducible refine gate_store (t := 3) (p := 94) rfl ?_); refine store_event (t := 3) (p := 94) (v := ?vo_w65) (w1 := (wr.setCell ⟨go63, (x6_2 : Int).toNat, none⟩ (.int .i64 (wrap64 ((rd (rd_L8 x4_3 (ji39)) x7_3) + 1))))) ?hg ?ho ?hn ?hr ?_; (case ho => rfl); (case hg => rfl); (case hn => rfl); (case hr => first | (go_simp; done) | (go_simp; rfl)); intro w65 hw; have hg : wr.grownBy w65 (some go63) := (by rw [hw]; exact HP64.2); have hz_ : Kd.R (Kd.int .i64) 3 w65 w.heap.size oki64 (.slice (some ⟨go63, 0, none⟩) (rd_L8 x4_3 x5_1).length c236_0) y239 := (by rw [hw, Ny239.out]; exact HP64.1); have hp_ : Kd.S (Kd.slice 3 (Kd.int .i64)) 28 w65 w.heap.size (fun _ => True) (.slice (some ⟨go10, 0, none⟩) x4_3.length co10) y241 := (by rw [Ny241.out]; exact hbk64 hg (fun k_ e_ => by injection e_ with e_; subst e_; exact ge64_0.1 _ rfl) (Kd.M_row hz_)); have hm_ := Kd.R_mono hz_ hok64; clear HP64 hbk64; have n0_ := am (hp_); have n1_ := am ((by rw [hw]; exact below_set (HB.out) GB63.out : Below w.heap.size w w65)); have n2_ := am (hm_); have n3_ := am ((Kd.R_reads' hm_).2.1); clear HO_4; clear HB; clear HL222_0; clear HL236_0; clear HL238_0; have HO_4 := n0_; have HB := n1_; have HL254 := n2_; have HC240 := n3_; clear n0_ n1_ n2_ n3_; clear hg hw hp_ hz_ hm_ hok64)
            (try simp only [← hl4_3])
            go_roundg k3
            case measure => have := HK1.out; have := HK2.out; have := HK3.out; omega
            case rel => exact ⟨(y241), (wrap64 (x7_3 + 1)), (by first | rfl | simp | simp [*]), H', ⟨by have := HK1.out; have := HK2.out; have := HK3.out; omega⟩, ⟨by (try simp only [hl4_2]); (try simp only [hl4_3]); (with_reducible repeat (first | apply Kd.S_alloc | apply Kd.S_drewN | apply Kd.S_drew)); exact HO_4.out⟩, ⟨bu HB.out⟩⟩
           rw [if_neg c62] at H
           have c62b0 : decide ((rd (rd_L8 x4_3 x5_1) x6_2) < 0) = false := decide_eq_false c62
           clear c62
           by_cases c66 : (wrap64 ((rd (rd_L8 x4_3 (ji39)) x7_3) + 1)) < (rd (rd_L8 x4_3 x5_1) x6_2)
           ·rw [if_pos c66] at H
            have c66b0 : decide ((wrap64 ((rd (rd_L8 x4_3 (ji39)) x7_3) + 1)) < (rd (rd_L8 x4_3 x5_1) x6_2)) = true := decide_eq_true c66
            clear c66
            obtain ⟨y245, hy245⟩ : ∃ y_ : List Int, y_ = ((rd_L8 x4_3 x5_1).set (x6_2 : Int).toNat (wrap64 ((rd (rd_L8 x4_3 (ji39)) x7_3) + 1))) := ⟨_, rfl⟩
            replace H : (spec_l2Fewest.l2 k3 l0 (l0.length : Int) (x4_3.set (x5_1 : Int).toNat y245) x5_1 x6_2 (wrap64 (x7_3 + 1))) = some r := by first | (rw [hy245]; with_reducible exact H) | (have H2_ := (Option.bind_some _ _).symm.trans H; rw [hy245]; with_reducible exact H2_) | (have H2_ := (Option.bind_some _ _).symm.trans H; with_reducible exact H2_) | with_reducible exact H | (rw [hy245]; exact H) | exact H
            have Ny245 := am hy245
            clear hy245
            obtain ⟨y247, hy247⟩ : ∃ y_ : List (List Int), y_ = (x4_3.set (x5_1 : Int).toNat y245) := ⟨_, rfl⟩
            replace H : (spec_l2Fewest.l2 k3 l0 (l0.length : Int) y247 x5_1 x6_2 (wrap64 (x7_3 + 1))) = some r := by first | (rw [hy247]; with_reducible exact H) | (have H2_ := (Option.bind_some _ _).symm.trans H; rw [hy247]; with_reducible exact H2_) | (have H2_ := (Option.bind_some _ _).symm.trans H; with_reducible exact H2_) | with_reducible exact H | (rw [hy247]; exact H) | exact H
            have Ny247 := am hy247
            clear hy247
            have H' := am H
            clear H
            have p222 : 0 ≤ ((ji39) : Int) := od
            have q222 : (ji39) < (x4_3.length : Int) := od
            obtain ⟨ad222, A222_0, c222_0, e222, hx222_0, hl222_0, hi222_0⟩ := at_L8 (Kd.S_reads' HO_4.out).2.2 (ji39) p222 q222
            obtain rfl : (⟨go10, 0, none⟩ : Addr) = ad222 := (by injection e222)
            obtain ⟨ce222, hce222, hMe222, hcc222⟩ := Kd.S_get HO_4.out [] (ji39) p222 (by first | exact q222 | exact od | (have e_ := (Kd.S_reads' HO_4.out).1; omega))
            obtain ⟨ve222_0, rfl, ge222_0⟩ := hMe222
            have hv222_0 := hcc222 0 _ rfl
            rw [Nat.add_zero, show ((Kd.slice 3 (Kd.int .i64))).sz = 1 from rfl, Nat.mul_one] at hv222_0
            replace hv222_0 := Option.some.inj (hv222_0.symm.trans hx222_0)
            rw [hv222_0] at ge222_0
            have HL222_0 := am (show Kd.R (Kd.int .i64) 3 _ _ _ _ (rd_L8 x4_3 (ji39)) from ge222_0)
            clear hv222_0 ge222_0
            have HX222_0 := am hx222_0
            clear hcc222 hce222
            (first | simp only [add_plain] at hx222_0 | simp only [add_at] at hx222_0 | simp only [Addr.add, Nat.zero_add] at hx222_0 | skip)
            have HR222_0 := am hi222_0
            have HC222_0 := am hl222_0
            clear hi222_0 hl222_0
            replace p222 := eq_true p222
            replace q222 := eq_true q222
            have p223 : 0 ≤ (x7_3 : Int) := od
            have q223 : x7_3 < ((rd_L8 x4_3 (ji39)).length : Int) := od
            obtain ⟨ad223, e223, hx223_0⟩ := Kd.at_int (by repeat (first | (with_reducible exact HR222_0.out) | (with_reducible refine Kd.C_alloc ?_ _) | (with_reducible refine Kd.C_drewN ?_ _) | (with_reducible refine Kd.C_drew ?_) | exact HR222_0.out)) x7_3 p223 q223
            cases e223
            replace p223 := eq_true p223
            replace q223 := eq_true q223
            have p236 : 0 ≤ (x5_1 : Int) := od
            have q236 : x5_1 < (x4_3.length : Int) := od
            obtain ⟨ad236, A236_0, c236_0, e236, hx236_0, hl236_0, hi236_0⟩ := at_L8 (Kd.S_reads' HO_4.out).2.2 x5_1 p236 q236
            obtain rfl : (⟨go10, 0, none⟩ : Addr) = ad236 := (by injection e236)
            obtain ⟨ce236, hce236, hMe236, hcc236⟩ := Kd.S_get HO_4.out [] x5_1 p236 (by first | exact q236 | exact od | (have e_ := (Kd.S_reads' HO_4.out).1; omega))
            obtain ⟨ve236_0, rfl, ge236_0⟩ := hMe236
            have hv236_0 := hcc236 0 _ rfl
            rw [Nat.add_zero, show ((Kd.slice 3 (Kd.int .i64))).sz = 1 from rfl, Nat.mul_one] at hv236_0
            replace hv236_0 := Option.some.inj (hv236_0.symm.trans hx236_0)
            rw [hv236_0] at ge236_0
            have HL236_0 := am (show Kd.R (Kd.int .i64) 3 _ _ _ _ (rd_L8 x4_3 x5_1) from ge236_0)
            clear hv236_0 ge236_0
            have HX236_0 := am hx236_0
            clear hcc236 hce236
            (first | simp only [add_plain] at hx236_0 | simp only [add_at] at hx236_0 | simp only [Addr.add, Nat.zero_add] at hx236_0 | skip)
            have HR236_0 := am hi236_0
            have HC236_0 := am hl236_0
            clear hi236_0 hl236_0
            replace p236 := eq_true p236
            replace q236 := eq_true q236
            have p237 : 0 ≤ (x6_2 : Int) := od
            have q237 : x6_2 < ((rd_L8 x4_3 x5_1).length : Int) := od
            obtain ⟨ad237, e237, hx237_0⟩ := Kd.at_int (by repeat (first | (with_reducible exact HR236_0.out) | (with_reducible refine Kd.C_alloc ?_ _) | (with_reducible refine Kd.C_drewN ?_ _) | (with_reducible refine Kd.C_drew ?_) | exact HR236_0.out)) x6_2 p237 q237
            cases e237
            replace p237 := eq_true p237
            replace q237 := eq_true q237
            have p242 : 0 ≤ (x5_1 : Int) := od
            have q242 : x5_1 < (x4_3.length : Int) := od
            obtain ⟨ad242, A242_0, c242_0, e242, hx242_0, hl242_0, hi242_0⟩ := at_L8 (Kd.S_reads' HO_4.out).2.2 x5_1 p242 q242
            obtain rfl : (⟨go10, 0, none⟩ : Addr) = ad242 := (by injection e242)
            obtain ⟨ce242, hce242, hMe242, hcc242⟩ := Kd.S_get HO_4.out [] x5_1 p242 (by first | exact q242 | exact od | (have e_ := (Kd.S_reads' HO_4.out).1; omega))
            obtain ⟨ve242_0, rfl, ge242_0⟩ := hMe242
            have hv242_0 := hcc242 0 _ rfl
            rw [Nat.add_zero, show ((Kd.slice 3 (Kd.int .i64))).sz = 1 from rfl, Nat.mul_one] at hv242_0
            replace hv242_0 := Option.some.inj (hv242_0.symm.trans hx242_0)
            rw [hv242_0] at ge242_0
            have HL242_0 := am (show Kd.R (Kd.int .i64) 3 _ _ _ _ (rd_L8 x4_3 x5_1) from ge242_0)
            clear hv242_0 ge242_0
            have HX242_0 := am hx242_0
            clear hcc242 hce242
            (first | simp only [add_plain] at hx242_0 | simp only [add_at] at hx242_0 | simp only [Addr.add, Nat.zero_add] at hx242_0 | skip)
            have HR242_0 := am hi242_0
            have HC242_0 := am hl242_0
            clear hi242_0 hl242_0
            replace p242 := eq_true p242
            replace q242 := eq_true q242
            have ea_ := Option.some.inj (hx236_0.symm.trans hx242_0)
            injection ea_ with ea_ en_ ec_
            subst ea_
            subst ec_
            clear en_
            have p243 : 0 ≤ (x6_2 : Int) := od
            have q243 : x6_2 < ((rd_L8 x4_3 x5_1).length : Int) := od
            obtain ⟨ad243, e243, hx243_0⟩ := Kd.at_int (by repeat (first | (with_reducible exact HR242_0.out) | (with_reducible refine Kd.C_alloc ?_ _) | (with_reducible refine Kd.C_drewN ?_ _) | (with_reducible refine Kd.C_drew ?_) | exact HR242_0.out)) x6_2 p243 q243
            cases e243
            replace p243 := eq_true p243
            replace q243 := eq_true q243
            have p244 : 0 ≤ (x5_1 : Int) := od
            have q244 : x5_1 < (x4_3.length : Int) := od
            obtain ⟨ad244, A244_0, c244_0, e244, hx244_0, hl244_0, hi244_0⟩ := at_L8 (Kd.S_reads' HO_4.out).2.2 x5_1 p244 q244
            obtain rfl : (⟨go10, 0, none⟩ : Addr) = ad244 := (by injection e244)
            obtain ⟨ce244, hce244, hMe244, hcc244⟩ := Kd.S_get HO_4.out [] x5_1 p244 (by first | exact q244 | exact od | (have e_ := (Kd.S_reads' HO_4.out).1; omega))
            obtain ⟨ve244_0, rfl, ge244_0⟩ := hMe244
            have hv244_0 := hcc244 0 _ rfl
            rw [Nat.add_zero, show ((Kd.slice 3 (Kd.int .i64))).sz = 1 from rfl, Nat.mul_one] at hv244_0
            replace hv244_0 := Option.some.inj (hv244_0.symm.trans hx244_0)
            rw [hv244_0] at ge244_0
            have HL244_0 := am (show Kd.R (Kd.int .i64) 3 _ _ _ _ (rd_L8 x4_3 x5_1) from ge244_0)
            clear hv244_0 ge244_0
            have HX244_0 := am hx244_0
            clear hcc244 hce244
            (first | simp only [add_plain] at hx244_0 | simp only [add_at] at hx244_0 | simp only [Addr.add, Nat.zero_add] at hx244_0 | skip)
            have HR244_0 := am hi244_0
            have HC244_0 := am hl244_0
            clear hi244_0 hl244_0
            replace p244 := eq_true p244
            replace q244 := eq_true q244
            have ea_ := Option.some.inj (hx236_0.symm.trans hx244_0)
            injection ea_ with ea_ en_ ec_
            subst ea_
            subst ec_
            clear en_
            have p67 : 0 ≤ (x6_2 : Int) := od
            have q67 : (x6_2 : Int) < (((rd_L8 x4_3 x5_1).length : Int) : Int) := od
            obtain ⟨go67, co67, eo67, gb67, gl67, cl67, HG67⟩ := Kd.R_form HL244_0.out (by omega)
            (first | cases eo67 | (injection eo67 with ea_ en_ ec_; (first | subst ea_ | (injection ea_ with ea_; subst ea_)); subst ec_; clear en_))
            have GB67 := am gb67
            have GG67 := am HG67
            clear gb67 gl67 HG67
            (first | simp only [add_plain] at hx243_0 | skip)
            obtain ⟨hx67_0, hf67_0⟩ := Kd.R_celln 0 HL244_0.out (x6_2 : Int) p67 q67
            replace p67 := eq_true p67
            replace q67 := eq_true q67
            have hq68 : (x5_1 : Int) < (x4_3.length : Int) := (by have h_ : (x5_1 : Int) < ((x4_3.length : Int) : Int) := od; first | exact h_ | (have e_ := (Kd.S_reads' HO_4.out).1; omega) | simpa only [List.length_set, List.length_set] using h_)
            obtain ⟨oki68, ce68, hcl68, hM68, hcc68, hok68, hbk68⟩ := Kd.S_borrow HO_4.out [] (x5_1 : Int) (od) hq68
            obtain ⟨ve68_0, rfl, ge68_0⟩ := hM68
            have hv68 := hcc68 0 _ rfl
            rw [Nat.add_zero, show ((Kd.slice 3 (Kd.int .i64))).sz = 1 from rfl, Nat.mul_one] at hv68
            replace hv68 := Option.some.inj (hv68.symm.trans HX244_0.out)
            subst hv68
            clear hcc68 hcl68
            replace ge68_0 := (show Kd.R (Kd.int .i64) 3 _ _ _ _ (rd_L8 x4_3 x5_1) from ge68_0)
            have HP68 := Kd.R_putg ge68_0 (x6_2 : Int) (wrap64 ((rd (rd_L8 x4_3 (ji39)) x7_3) + 1))
            go_wp2_with ((with_reducible refine gate_store (t := 3) (p := 94) rfl ?_); refine store_event (t := 3) (p := 94) (v := ?vo_w69) (w1 := (wr.setCell ⟨go67, (x6_2 : Int).toNat, none⟩ (.int .i64 (wrap64 ((rd (rd_L8 x4_3 (ji39)) x7_3) + 1))))) ?hg ?ho ?hn ?hr ?_; (case ho => rfl); (case hg => rfl); (case hn => rfl); (case hr => first | (go_simp; done) | (go_simp; rfl)); intro w69 hw; have hg : wr.grownBy w69 (some go67) := (by rw [hw]; exact HP68.2); have hz_ : Kd.R (Kd.int .i64) 3 w69 w.heap.size oki68 (.slice (some ⟨go67, 0, none⟩) (rd_L8 x4_3 x5_1).length c236_0) y245 := (by rw [hw, Ny245.out]; exact HP68.1); have hp_ : Kd.S (Kd.slice 3 (Kd.int .i64)) 28 w69 w.heap.size (fun _ => True) (.slice (some ⟨go10, 0, none⟩) x4_3.length co10) y247 := (by rw [Ny247.out]; exact hbk68 hg (fun k_ e_ => by injection e_ with e_; subst e_; exact ge68_0.1 _ rfl) (Kd.M_row hz_)); have hm_ := Kd.R_mono hz_ hok68; clear HP68 hbk68; have n0_ := am (hp_); have n1_ := am ((by rw [hw]; exact below_set (HB.out) GB67.out : Below w.heap.size w w69)); have n2_ := am (hm_); have n3_ := am ((Kd.R_reads' hm_).2.1); clear HO_4; clear HB; clear HL222_0; clear HL236_0; clear HL242_0; clear HL244_0; have HO_4 := n0_; have HB := n1_; have HL255 := n2_; have HC246 := n3_; clear n0_ n1_ n2_ n3_; clear hg hw hp_ hz_ hm_ hok68)
            (try simp only [← hl4_3])
            go_roundg k3
            case measure => have := HK1.out; have := HK2.out; have := HK3.out; omega
            case rel => exact ⟨(y247), (wrap64 (x7_3 + 1)), (by first | rfl | simp | simp [*]), H', ⟨by have := HK1.out; have := HK2.out; have := HK3.out; omega⟩, ⟨by (try simp only [hl4_2]); (try simp only [hl4_3]); (with_reducible repeat (first | apply Kd.S_alloc | apply Kd.S_drewN | apply Kd.S_drew)); exact HO_4.out⟩, ⟨bu HB.out⟩⟩
           rw [if_neg c66] at H
           have c66b0 : decide ((wrap64 ((rd (rd_L8 x4_3 (ji39)) x7_3) + 1)) < (rd (rd_L8 x4_3 x5_1) x6_2)) = false := decide_eq_false c66
           clear c66
           have H' := am H
           clear H
           have p222 : 0 ≤ ((ji39) : Int) := od
           have q222 : (ji39) < (x4_3.length : Int) := od
           obtain ⟨ad222, A222_0, c222_0, e222, hx222_0, hl222_0, hi222_0⟩ := at_L8 (Kd.S_reads' HO_4.out).2.2 (ji39) p222 q222
           obtain rfl : (⟨go10, 0, none⟩ : Addr) = ad222 := (by injection e222)
           obtain ⟨ce222, hce222, hMe222, hcc222⟩ := Kd.S_get HO_4.out [] (ji39) p222 (by first | exact q222 | exact od | (have e_ := (Kd.S_reads' HO_4.out).1; omega))
           obtain ⟨ve222_0, rfl, ge222_0⟩ := hMe222
           have hv222_0 := hcc222 0 _ rfl
           rw [Nat.add_zero, show ((Kd.slice 3 (Kd.int .i64))).sz = 1 from rfl, Nat.mul_one] at hv222_0
           replace hv222_0 := Option.some.inj (hv222_0.symm.trans hx222_0)
           rw [hv222_0] at ge222_0
           have HL222_0 := am (show Kd.R (Kd.int .i64) 3 _ _ _ _ (rd_L8 x4_3 (ji39)) from ge222_0)
           clear hv222_0 ge222_0
           have HX222_0 := am hx222_0
           clear hcc222 hce222
           (first | simp only [add_plain] at hx222_0 | simp only [add_at] at hx222_0 | simp only [Addr.add, Nat.zero_add] at hx222_0 | skip)
           have HR222_0 := am hi222_0
           have HC222_0 := am hl222_0
           clear hi222_0 hl222_0
           replace p222 := eq_true p222
           replace q222 := eq_true q222
           have p223 : 0 ≤ (x7_3 : Int) := od
           have q223 : x7_3 < ((rd_L8 x4_3 (ji39)).length : Int) := od
           obtain ⟨ad223, e223, hx223_0⟩ := Kd.at_int (by repeat (first | (with_reducible exact HR222_0.out) | (with_reducible refine Kd.C_alloc ?_ _) | (with_reducible refine Kd.C_drewN ?_ _) | (with_reducible refine Kd.C_drew ?_) | exact HR222_0.out)) x7_3 p223 q223
           cases e223
           replace p223 := eq_true p223
           replace q223 := eq_true q223
           have p236 : 0 ≤ (x5_1 : Int) := od
           have q236 : x5_1 < (x4_3.length : Int) := od
           obtain ⟨ad236, A236_0, c236_0, e236, hx236_0, hl236_0, hi236_0⟩ := at_L8 (Kd.S_reads' HO_4.out).2.2 x5_1 p236 q236
           obtain rfl : (⟨go10, 0, none⟩ : Addr) = ad236 := (by injection e236)
           obtain ⟨ce236, hce236, hMe236, hcc236⟩ := Kd.S_get HO_4.out [] x5_1 p236 (by first | exact q236 | exact od | (have e_ := (Kd.S_reads' HO_4.out).1; omega))
           obtain ⟨ve236_0, rfl, ge236_0⟩ := hMe236
           have hv236_0 := hcc236 0 _ rfl
           rw [Nat.add_zero, show ((Kd.slice 3 (Kd.int .i64))).sz = 1 from rfl, Nat.mul_one] at hv236_0
           replace hv236_0 := Option.some.inj (hv236_0.symm.trans hx236_0)
           rw [hv236_0] at ge236_0
           have HL236_0 := am (show Kd.R (Kd.int .i64) 3 _ _ _ _ (rd_L8 x4_3 x5_1) from ge236_0)
           clear hv236_0 ge236_0
           have HX236_0 := am hx236_0
           clear hcc236 hce236
           (first | simp only [add_plain] at hx236_0 | simp only [add_at] at hx236_0 | simp only [Addr.add, Nat.zero_add] at hx236_0 | skip)
           have HR236_0 := am hi236_0
           have HC236_0 := am hl236_0
           clear hi236_0 hl236_0
           replace p236 := eq_true p236
           replace q236 := eq_true q236
           have p237 : 0 ≤ (x6_2 : Int) := od
           have q237 : x6_2 < ((rd_L8 x4_3 x5_1).length : Int) := od
           obtain ⟨ad237, e237, hx237_0⟩ := Kd.at_int (by repeat (first | (with_reducible exact HR236_0.out) | (with_reducible refine Kd.C_alloc ?_ _) | (with_reducible refine Kd.C_drewN ?_ _) | (with_reducible refine Kd.C_drew ?_) | exact HR236_0.out)) x6_2 p237 q237
           cases e237
           replace p237 := eq_true p237
           replace q237 := eq_true q237
           have p242 : 0 ≤ (x5_1 : Int) := od
           have q242 : x5_1 < (x4_3.length : Int) := od
           obtain ⟨ad242, A242_0, c242_0, e242, hx242_0, hl242_0, hi242_0⟩ := at_L8 (Kd.S_reads' HO_4.out).2.2 x5_1 p242 q242
           obtain rfl : (⟨go10, 0, none⟩ : Addr) = ad242 := (by injection e242)
           obtain ⟨ce242, hce242, hMe242, hcc242⟩ := Kd.S_get HO_4.out [] x5_1 p242 (by first | exact q242 | exact od | (have e_ := (Kd.S_reads' HO_4.out).1; omega))
           obtain ⟨ve242_0, rfl, ge242_0⟩ := hMe242
           have hv242_0 := hcc242 0 _ rfl
           rw [Nat.add_zero, show ((Kd.slice 3 (Kd.int .i64))).sz = 1 from rfl, Nat.mul_one] at hv242_0
           replace hv242_0 := Option.some.inj (hv242_0.symm.trans hx242_0)
           rw [hv242_0] at ge242_0
           have HL242_0 := am (show Kd.R (Kd.int .i64) 3 _ _ _ _ (rd_L8 x4_3 x5_1) from ge242_0)
           clear hv242_0 ge242_0
           have HX242_0 := am hx242_0
           clear hcc242 hce242
           (first | simp only [add_plain] at hx242_0 | simp only [add_at] at hx242_0 | simp only [Addr.add, Nat.zero_add] at hx242_0 | skip)
           have HR242_0 := am hi242_0
           have HC242_0 := am hl242_0
           clear hi242_0 hl242_0
           replace p242 := eq_true p242
           replace q242 := eq_true q242
           have ea_ := Option.some.inj (hx236_0.symm.trans hx242_0)
           injection ea_ with ea_ en_ ec_
           subst ea_
           subst ec_
           clear en_
           have p243 : 0 ≤ (x6_2 : Int) := od
           have q243 : x6_2 < ((rd_L8 x4_3 x5_1).length : Int) := od
           obtain ⟨ad243, e243, hx243_0⟩ := Kd.at_int (by repeat (first | (with_reducible exact HR242_0.out) | (with_reducible refine Kd.C_alloc ?_ _) | (with_reducible refine Kd.C_drewN ?_ _) | (with_reducible refine Kd.C_drew ?_) | exact HR242_0.out)) x6_2 p243 q243
           cases e243
           replace p243 := eq_true p243
           replace q243 := eq_true q243
           go_wp2
           (try simp only [← hl4_3])
           go_roundg k3
           case measure => have := HK1.out; have := HK2.out; have := HK3.out; omega
           case rel => exact ⟨(x4_3), (wrap64 (x7_3 + 1)), (by first | rfl | simp | simp [*]), H', ⟨by have := HK1.out; have := HK2.out; have := HK3.out; omega⟩, ⟨by (try simp only [hl4_2]); (try simp only [hl4_3]); (with_reducible repeat (first | apply Kd.S_alloc | apply Kd.S_drewN | apply Kd.S_drew)); exact HO_4.out⟩, ⟨bu HB.out⟩⟩
          rw [if_neg c38] at H
          have c38b0 : decide (x7_3 ≤ 20) = false := decide_eq_false c38
          clear c38
          have H' := am H
          clear H
          go_wp2
          (try simp only [← hl4_2, ← hl4_3])
          go_roundg k3
          case measure => have := HK1.out; have := HK2.out; have := HK3.out; omega
          case rel => exact ⟨(x4_3), (wrap64 (x6_2 + 1)), (by first | rfl | simp | simp [*]), H', ⟨by have := HK1.out; have := HK2.out; have := HK3.out; omega⟩, ⟨by (try simp only [hl4_2]); (try simp only [hl4_3]); (with_reducible repeat (first | apply Kd.S_alloc | apply Kd.S_drewN | apply Kd.S_drew)); exact HO_4.out⟩, ⟨bu HB.out⟩⟩
       rw [if_neg c15] at H
       have c15b0 : decide (x6_2 ≤ 20) = false := decide_eq_false c15
       clear c15
       have H' := am H
       clear H
       go_wp2
       (try simp only [← hl4_2])
       go_roundg k2
       case measure => have := HK1.out; have := HK2.out; omega
       case rel => exact ⟨(x4_2), (wrap64 (x5_1 - 1)), (by first | rfl | simp | simp [*]), H', ⟨by have := HK1.out; have := HK2.out; omega⟩, ⟨by (try simp only [hl4_2]); (with_reducible repeat (first | apply Kd.S_alloc | apply Kd.S_drewN | apply Kd.S_drew)); exact HO_4.out⟩, ⟨bu HB.out⟩⟩
    rw [if_neg c6] at H
    have c6b0 : decide (0 ≤ x5_1) = false := decide_eq_false c6
    clear c6
    obtain rfl := Option.some.inj H
    go_wp2
    go_ret
    exact ⟨_, by first | rfl | (simp [*] <;> rfl), by (with_reducible repeat (first | apply Kd.S_alloc | apply Kd.S_drewN | apply Kd.S_drew)); exact HO_4.out, bu HB.out⟩
 ·rw [if_neg c2] at H
  exact absurd H (by simp)

end Go.Proofs.YtjnkmckklmabcaaGreatDoor.XL
