-- Made by this session's gprint.py out of the translation. Not trusted: Lean checks it.
import Derived.Test.YtcndojoghmblaaaDoorSFx0
import Derived.Test.YtcndojoghmblaaaDoorSFx6
namespace Go.Proofs.YtcndojoghmblaaaDoor.SF
open Go.RowKit Go.Proofs.YtcndojoghmblaaaDoorW.PrintWords Go.Proofs.YtcndojoghmblaaaDoorW.PrintLast Go.Proofs.YtcndojoghmblaaaDoorW.PrintMore
attribute [local go_sem] max2_int min2_int max_two min_two max_three min_three max_four min_four   -- for this text's walks alone
set_option linter.unusedVariables false
set_option linter.unusedSimpArgs false

/-! ### spec_l2Fewest: function 95 -/
mutual
def spec_l2Fewest.l0 : Nat → List (S30) → Int → List (List Int) → Int → Option ((List (List Int)))
 | 0, _, _, _, _ => none
 | k + 1, x0, x3, x4, x5 => if x5 ≥ 0 then (if 21 ≤ 35184372088832 then (if 0 ≤ x5 then (if x5 < (x4.length : Int) then (spec_l2Fewest.l1 k x0 x3 (x4.set (x5 : Int).toNat (List.replicate 21 0)) x5 0) else (none)) else (none)) else (none)) else (some x4)
def spec_l2Fewest.l1 : Nat → List (S30) → Int → List (List Int) → Int → Int → Option ((List (List Int)))
 | 0, _, _, _, _, _ => none
 | k + 1, x0, x3, x4, x5, x6 => if x6 ≤ 20 then (if 0 ≤ x5 then (if x5 < (x4.length : Int) then (if 0 ≤ x6 then (if x6 < ((rd_L5 x4 x5).length : Int) then ((some (x4.set (x5 : Int).toNat ((rd_L5 x4 x5).set (x6 : Int).toNat (-1)) : List (List Int))).bind fun y191 => (if x5 < (x0.length : Int) then ((spec_HexSyllable.f k x6 ((rd_T30 x0 x5).f0) ((rd_T30 x0 x5).f1)).bind fun t193 => (if t193 < 0 then (spec_l2Fewest.l1 k x0 x3 y191 x5 (wrap64 (x6 + 1))) else (if x5 = (wrap64 (x3 - 1)) then (if x6 < ((rd_L5 y191 x5).length : Int) then (spec_l2Fewest.l1 k x0 x3 (y191.set (x5 : Int).toNat ((rd_L5 y191 x5).set (x6 : Int).toNat 0)) x5 (wrap64 (x6 + 1))) else (none)) else (spec_l2Fewest.l2 k x0 x3 y191 x5 x6 0)))) else (none))) else (none)) else (none)) else (none)) else (none)) else (spec_l2Fewest.l0 k x0 x3 x4 (wrap64 (x5 - 1)))
def spec_l2Fewest.l2 : Nat → List (S30) → Int → List (List Int) → Int → Int → Int → Option ((List (List Int)))
 | 0, _, _, _, _, _, _ => none
 | k + 1, x0, x3, x4, x5, x6, x7 => if x7 ≤ 20 then (if 0 ≤ (wrap64 (x5 + 1)) then (if (wrap64 (x5 + 1)) < (x4.length : Int) then (if 0 ≤ x7 then (if x7 < ((rd_L5 x4 (wrap64 (x5 + 1))).length : Int) then (if (rd (rd_L5 x4 (wrap64 (x5 + 1))) x7) < 0 then (spec_l2Fewest.l2 k x0 x3 x4 x5 x6 (wrap64 (x7 + 1))) else (if x7 = x6 then (if 0 ≤ x5 then (if x5 < (x4.length : Int) then (if 0 ≤ x6 then (if x6 < ((rd_L5 x4 x5).length : Int) then (if (rd (rd_L5 x4 x5) x6) < 0 then (spec_l2Fewest.l2 k x0 x3 (x4.set (x5 : Int).toNat ((rd_L5 x4 x5).set (x6 : Int).toNat (rd (rd_L5 x4 (wrap64 (x5 + 1))) x7))) x5 x6 (wrap64 (x7 + 1))) else (if (rd (rd_L5 x4 (wrap64 (x5 + 1))) x7) < (rd (rd_L5 x4 x5) x6) then (spec_l2Fewest.l2 k x0 x3 (x4.set (x5 : Int).toNat ((rd_L5 x4 x5).set (x6 : Int).toNat (rd (rd_L5 x4 (wrap64 (x5 + 1))) x7))) x5 x6 (wrap64 (x7 + 1))) else (spec_l2Fewest.l2 k x0 x3 x4 x5 x6 (wrap64 (x7 + 1))))) else (none)) else (none)) else (none)) else (none)) else (if 0 ≤ x5 then (if x5 < (x4.length : Int) then (if 0 ≤ x6 then (if x6 < ((rd_L5 x4 x5).length : Int) then (if (rd (rd_L5 x4 x5) x6) < 0 then (spec_l2Fewest.l2 k x0 x3 (x4.set (x5 : Int).toNat ((rd_L5 x4 x5).set (x6 : Int).toNat (wrap64 ((rd (rd_L5 x4 (wrap64 (x5 + 1))) x7) + 1)))) x5 x6 (wrap64 (x7 + 1))) else (if (wrap64 ((rd (rd_L5 x4 (wrap64 (x5 + 1))) x7) + 1)) < (rd (rd_L5 x4 x5) x6) then (spec_l2Fewest.l2 k x0 x3 (x4.set (x5 : Int).toNat ((rd_L5 x4 x5).set (x6 : Int).toNat (wrap64 ((rd (rd_L5 x4 (wrap64 (x5 + 1))) x7) + 1)))) x5 x6 (wrap64 (x7 + 1))) else (spec_l2Fewest.l2 k x0 x3 x4 x5 x6 (wrap64 (x7 + 1))))) else (none)) else (none)) else (none)) else (none)))) else (none)) else (none)) else (none)) else (none)) else (spec_l2Fewest.l1 k x0 x3 x4 x5 (wrap64 (x6 + 1)))
end
def spec_l2Fewest.f (k : Nat) (l0 : List (S30)) : Option ((List (List Int))) := if 0 ≤ (l0.length : Int) then (if ((l0.length : Int) : Int).toNat ≤ 11728124029610 then (spec_l2Fewest.l0 k l0 (l0.length : Int) (List.replicate ((l0.length : Int) : Int).toNat []) (wrap64 ((l0.length : Int) - 1))) else (none)) else (none)
set_option maxHeartbeats 8000000 in
set_option maxRecDepth 100000 in
theorem spec_l2Fewest.calls (k : Nat) (A0 : Option Addr) (c0 : Nat) (l0 : List (S30)) (r : List (List Int)) (w : World) (hr0 : Kd.C k30 w A0 l0.length l0) (hc0 : l0.length ≤ c0) (h : spec_l2Fewest.f k l0 = some r) :
  Calls Tryd.prog 95 #[.slice A0 l0.length c0] w fun e w' => ∃ v0_ : Value, e = .returned (v0_) ∧ Kd.S (Kd.slice 3 (Kd.int .i64)) 26 w' w.heap.size (fun _ => True) v0_ r ∧ Below w.heap.size w w' := by
 have hu30 := Tryd.underlying30
 have HR0 := am hr0
 have HC0 := am hc0
 clear hr0 hc0
 have HB := am (Below.refl w.heap.size w)
 have H : (if 0 ≤ (l0.length : Int) then (if ((l0.length : Int) : Int).toNat ≤ 11728124029610 then (spec_l2Fewest.l0 k l0 (l0.length : Int) (List.replicate ((l0.length : Int) : Int).toNat []) (wrap64 ((l0.length : Int) - 1))) else (none)) else (none)) = some r := h
 clear h
 by_cases c2 : 0 ≤ (l0.length : Int)
 ·rw [if_pos c2] at H
  have c2b0 := eq_true c2
  have c2b1 : decide (0 ≤ (l0.length : Int)) = true := decide_eq_true c2
  clear c2
  by_cases c3 : ((l0.length : Int) : Int).toNat ≤ 11728124029610
  ·rw [if_pos c3] at H
   have c3b0 := eq_true c3
   have c3b1 : decide (((l0.length : Int) : Int).toNat ≤ 11728124029610) = true := decide_eq_true c3
   clear c3
   obtain ⟨y181, hy181⟩ : ∃ y_ : List (List Int), y_ = (List.replicate ((l0.length : Int) : Int).toNat []) := ⟨_, rfl⟩
   replace H : (spec_l2Fewest.l0 k l0 (l0.length : Int) y181 (wrap64 ((l0.length : Int) - 1))) = some r := by first | (rw [hy181]; with_reducible exact H) | (have H2_ := (Option.bind_some _ _).symm.trans H; rw [hy181]; with_reducible exact H2_) | (have H2_ := (Option.bind_some _ _).symm.trans H; with_reducible exact H2_) | with_reducible exact H | (rw [hy181]; exact H) | exact H
   have Ny181 := am hy181
   clear hy181
   have H' := am H
   clear H
   go_enter Tryd.func95, Tryd.ntmps95
   go_wp2_with (first | ((with_reducible refine gate_dst (N := 12) rfl ?_); refine Kd.S_make (Kd.slice 3 (Kd.int .i64)) _ 26 rfl (N := 12) rfl 114 _ _ rfl (l0.length : Int) rfl rfl Tryd.underlying114 (.slice none 0 0) 24 info26 rfl (by decide) (by omega) [] (ok := fun _ => True) (okp := fun _ => True) ⟨_, rfl, Kd.R_nil _ _ _ _ _⟩ (fun _ hk => hk) trivial (od) (Nat.le_trans (Nat.mul_le_mul_right _ (od : (l0.length : Int).toNat ≤ 11728124029610)) (by omega)) (Below.refl _ _) (Nat.le_refl _) ?_; intro v182 w4 ho5 hb hg_ hnew_; clear hg_ hnew_; (first | rw [← Ny181.out] at ho5 | (simp only [Int.reduceToNat] at ho5; rw [← Ny181.out] at ho5)); have n0_ := am (Kd.S_lower ho5 (below_size (bu HB.out))); have n1_ := am (below_step (bu HB.out) hb); clear HB; have HO183 := n0_; have HB := n1_; clear n0_ n1_; clear hb ho5))
   go_loopg [5] k (fun kq v5 w' => ∃ (x4_1 : List (List Int)) (x5_1 : Int), v5 = .int .i64 x5_1 ∧ Aside0 (spec_l2Fewest.l0 kq l0 (l0.length : Int) x4_1 x5_1 = some r) ∧ Aside0 (kq ≤ k) ∧ Aside0 (Kd.S (Kd.slice 3 (Kd.int .i64)) 26 w' w.heap.size (fun _ => True) v182 x4_1) ∧ Aside0 (Below w.heap.size w w'))
   case atStart => exact ⟨(y181), (wrap64 ((l0.length : Int) - 1)), (by first | rfl | (simp; done) | (simp [*]; done)), H', ⟨Nat.le_refl _⟩, ⟨by (with_reducible repeat (first | apply Kd.S_alloc | apply Kd.S_drewN | apply Kd.S_drew)); exact HO183.out⟩, ⟨bu HB.out⟩⟩
   case round =>
    clear H'
    try clear c2
    try clear c2b0
    try clear c2b1
    try clear p2
    try clear c3
    try clear c3b0
    try clear c3b1
    obtain ⟨x4_1, x5_1, rfl, HA, HK1, HO_4, HB⟩ := hrel
    cases gk with
    | zero => exact absurd HA.out (by simp [spec_l2Fewest.l0])
    | succ k1 =>
     have H := HA.out
     clear HA
     simp only [spec_l2Fewest.l0] at H
     by_cases c6 : x5_1 ≥ 0
     ·rw [if_pos c6] at H
      have c6b0 : decide (0 ≤ x5_1) = true := decide_eq_true c6
      clear c6
      by_cases c7 : 21 ≤ 35184372088832
      ·rw [if_pos c7] at H
       have c7b0 := eq_true c7
       have c7b1 : decide (21 ≤ 35184372088832) = true := decide_eq_true c7
       clear c7
       obtain ⟨y184, hy184⟩ : ∃ y_ : List Int, y_ = (List.replicate 21 0) := ⟨_, rfl⟩
       replace H : (if 0 ≤ x5_1 then (if x5_1 < (x4_1.length : Int) then (spec_l2Fewest.l1 k1 l0 (l0.length : Int) (x4_1.set (x5_1 : Int).toNat y184) x5_1 0) else (none)) else (none)) = some r := by first | (rw [hy184]; with_reducible exact H) | (have H2_ := (Option.bind_some _ _).symm.trans H; rw [hy184]; with_reducible exact H2_) | (have H2_ := (Option.bind_some _ _).symm.trans H; with_reducible exact H2_) | with_reducible exact H | (rw [hy184]; exact H) | exact H
       have Ny184 := am hy184
       clear hy184
       by_cases c8 : 0 ≤ x5_1
       ·rw [if_pos c8] at H
        have c8b0 : decide (0 ≤ x5_1) = true := decide_eq_true c8
        clear c8
        by_cases c9 : x5_1 < (x4_1.length : Int)
        ·rw [if_pos c9] at H
         have c9b0 : decide (x5_1 < (x4_1.length : Int)) = true := decide_eq_true c9
         clear c9
         obtain ⟨y187, hy187⟩ : ∃ y_ : List (List Int), y_ = (x4_1.set (x5_1 : Int).toNat y184) := ⟨_, rfl⟩
         replace H : (spec_l2Fewest.l1 k1 l0 (l0.length : Int) y187 x5_1 0) = some r := by first | (rw [hy187]; with_reducible exact H) | (have H2_ := (Option.bind_some _ _).symm.trans H; rw [hy187]; with_reducible exact H2_) | (have H2_ := (Option.bind_some _ _).symm.trans H; with_reducible exact H2_) | with_reducible exact H | (rw [hy187]; exact H) | exact H
         have Ny187 := am hy187
         clear hy187
         have H' := am H
         clear H
         go_wp2_with (first | ((with_reducible refine gate_dst (N := 21) rfl ?_); refine Kd.R_make (Kd.int .i64) _ 3 rfl (N := 21) rfl 26 _ _ rfl 21 rfl rfl Tryd.underlying26 (.int .i64 0) 8 info3 rfl (by decide) (by omega) 0 (ok := fun _ => True) (okp := fun _ => True) rfl (fun _ hk => hk) trivial (by omega) (by omega) (Below.refl _ _) (Nat.le_refl _) ?_; intro v185 w11 ho12 hb hg_ hnew_; clear hg_ hnew_; (first | rw [← Ny184.out] at ho12 | (simp only [Int.reduceToNat] at ho12; rw [← Ny184.out] at ho12)); have n0_ := am (Kd.S_elder' (by (with_reducible repeat (first | apply Kd.S_alloc | apply Kd.S_drewN | apply Kd.S_drew)); exact HO_4.out) (Kd.R_base ho12) hb); have n1_ := am (Kd.R_lower ho12 (below_size (bu HB.out))); have n2_ := am (below_step (bu HB.out) hb); clear HO_4; clear HB; have HO_4 := n0_; have HO186 := n1_; have HB := n2_; clear n0_ n1_ n2_; clear hb ho12; have p10 : 0 ≤ (x5_1 : Int) := od; have q10 : (x5_1 : Int) < ((x4_1.length : Int) : Int) := od; obtain ⟨go10, co10, eo10, gb10, gl10, cl10, HG10⟩ := Kd.S_form HO_4.out (by omega); (first | cases eo10 | (injection eo10 with ea_ en_ ec_; (first | subst ea_ | (injection ea_ with ea_; subst ea_)); subst ec_; clear en_)); have GB10 := am gb10; have GG10 := am HG10; clear gb10 gl10 HG10; obtain ⟨_, ce10, hcl10, hM10, hcc10, hfr10, _, _⟩ := Kd.S_elem HO_4.out [] (x5_1 : Int) p10 q10; obtain ⟨ve10_0, rfl, ge10_0⟩ := hM10; have hx10_0 := hcc10 0 _ rfl; have hf10_0 := hfr10 0; (try simp only [show ((Kd.slice 3 (Kd.int .i64))).sz = 1 from rfl, Nat.mul_one, Nat.add_zero] at hx10_0); (try simp only [show ((Kd.slice 3 (Kd.int .i64))).sz = 1 from rfl, Nat.mul_one, Nat.add_zero] at hf10_0); (try clear hM10); clear hcl10 hcc10 hfr10; replace p10 := eq_true p10; replace q10 := eq_true q10; have n_ := am (Kd.S_mono (ok' := (fun k_ => some k_ ≠ (v185 : Value).ownBlock)) HO_4.out (fun k_ hk => hk.2)); clear HO_4; have HO_4 := n_; clear n_; have HX13 := am (show Kd.S (Kd.slice 3 (Kd.int .i64)) 26 w11 w.heap.size (fun k_ => ((fun _ => True)) k_ ∧ ¬ ((fun k_ => some k_ = (v185 : Value).ownBlock)) k_) (.slice (some ⟨go10, 0, none⟩) x4_1.length co10) x4_1 from (by (with_reducible repeat (first | apply Kd.S_alloc | apply Kd.S_drewN | apply Kd.S_drew)); exact Kd.S_mono HO_4.out (fun k_ hk => ⟨trivial, fun e_ => hk e_⟩))); obtain ⟨oki13, ce13, hcl13, hM13, hcc13, hfr13, hoki13, hH13⟩ := Kd.S_elem HX13.out [] (x5_1 : Int) (od) (by have h_ : (x5_1 : Int) < ((x4_1.length : Int) : Int) := od; first | exact h_ | (have e_ := (Kd.S_reads' HO_4.out).1; omega) | simpa using h_); obtain ⟨ve13_0, rfl, ge13_0⟩ := hM13; have HP13 := Kd.S_seg hH13 (od) (by have h_ : (x5_1 : Int) < ((x4_1.length : Int) : Int) := od; first | exact h_ | (have e_ := (Kd.S_reads' HO_4.out).1; omega) | simpa using h_) (seg := [v185]) (j := 0) (show 1 ≤ 1 from by decide) (x' := y184) (Kd.M_row (Kd.R_mono (Kd.R_tight rfl (Kd.R_mono (ok' := fun k_ => ((fun _ => True)) k_ ∧ k_ ≠ go10) (Kd.R_apart' (HO186.out) (Kd.S_typed HO_4.out) (by decide)) (fun k_ hk => ⟨trivial, fun e_ => (hk.2) (by rw [e_]; rfl)⟩))) (fun _ h_ => Or.inr (h_)))) (fun _ hk => hk) (fun k_ hk_ => ((Kd.R_mono (ok' := fun k_ => ((fun _ => True)) k_ ∧ k_ ≠ go10) (Kd.R_apart' (HO186.out) (Kd.S_typed HO_4.out) (by decide)) (fun k_ hk => ⟨trivial, fun e_ => (hk.2) (by rw [e_]; rfl)⟩))).1 k_ hk_.symm); have hx13_0 := hcc13 0 _ rfl; (try simp only [show ((Kd.slice 3 (Kd.int .i64))).sz = 1 from rfl, Nat.mul_one, Nat.add_zero] at hx13_0); have hf13_0 := hfr13 0; (try simp only [show ((Kd.slice 3 (Kd.int .i64))).sz = 1 from rfl, Nat.mul_one, Nat.add_zero] at hf13_0); (try clear hM13); clear hcl13 hcc13 hfr13 hoki13 hH13; (try simp only [show ((Kd.slice 3 (Kd.int .i64))).sz = 1 from rfl, Nat.mul_one, Nat.add_zero] at HP13); obtain ⟨Ae_, ce_, ev_⟩ := Kd.R_slice HO186.out) | ((with_reducible refine gate_store (t := 26) (p := 22) rfl ?_); refine store_event (t := 26) (p := 22) (v := ?vo_w14) (w1 := (w11.setCell ⟨go10, (x5_1 : Int).toNat, none⟩ (v185))) ?hg ?ho ?hn ?hr ?_; (case ho => rfl); (case hg => rfl); (case hn => rfl); (case hr => first | (go_simp; done) | (go_simp; rfl)); intro w14 hw; have hg : w11.grownBy w14 (some go10) := (by rw [hw]; exact HP13.2); have hp_ : Kd.S (Kd.slice 3 (Kd.int .i64)) 26 w14 w.heap.size (fun _ => True) (.slice (some ⟨go10, 0, none⟩) x4_1.length co10) y187 := (by rw [hw, Ny187.out]; exact HP13.1); clear HP13; have n0_ := am (hp_); have n1_ := am ((by rw [hw]; exact below_set (HB.out) GB10.out : Below w.heap.size w w14)); clear HO_4; clear HB; clear HO186; have HO_4 := n0_; have HB := n1_; clear n0_ n1_; clear hg hw hp_; (try clear ev_)))
         go_loopg [6] k1 (fun kq v6 w' => ∃ (x4_2 : List (List Int)) (x6_2 : Int), v6 = .int .i64 x6_2 ∧ Aside0 (spec_l2Fewest.l1 kq l0 (l0.length : Int) x4_2 x5_1 x6_2 = some r) ∧ Aside0 (kq ≤ k1) ∧ Aside0 (Kd.S (Kd.slice 3 (Kd.int .i64)) 26 w' w.heap.size (fun _ => True) (.slice (some ⟨go10, 0, none⟩) x4_1.length co10) x4_2) ∧ Aside0 (Below w.heap.size w w'))
         case atStart => exact ⟨(y187), (0), (by first | rfl | (simp; done) | (simp [*]; done)), H', ⟨Nat.le_refl _⟩, ⟨by (with_reducible repeat (first | apply Kd.S_alloc | apply Kd.S_drewN | apply Kd.S_drew)); exact HO_4.out⟩, ⟨bu HB.out⟩⟩
         case round =>
          clear H'
          try clear c1
          try clear p1
          try clear q1
          try clear hx1
          try clear hf1
          try clear c2
          try clear c2b0
          try clear c2b1
          try clear p2
          try clear c3
          try clear c3b0
          try clear c3b1
          try clear c6
          try clear c6b0
          try clear p6
          try clear c7
          try clear c7b0
          try clear c7b1
          try clear c8
          try clear c8b0
          try clear c9
          try clear c9b0
          try clear c10
          try clear p10
          try clear q10
          try clear hx10
          try clear hf10
          try clear c13
          try clear hx13
          try clear hf13
          try clear hx10_0
          try clear hx13_0
          try clear p10
          try clear p2
          try clear q10
          obtain ⟨x4_2, x6_2, rfl, HA, HK2, HO_4, HB⟩ := hrel
          have hl4_2 := (Kd.S_reads' HO_4.out).1
          rw [hl4_2] at HO_4
          (try simp only [hl4_2])
          cases gk with
          | zero => exact absurd HA.out (by simp [spec_l2Fewest.l1])
          | succ k2 =>
           have H := HA.out
           clear HA
           simp only [spec_l2Fewest.l1] at H
           by_cases c15 : x6_2 ≤ 20
           ·rw [if_pos c15] at H
            have c15b0 : decide (x6_2 ≤ 20) = true := decide_eq_true c15
            clear c15
            by_cases c16 : 0 ≤ x5_1
            ·rw [if_pos c16] at H
             have c16b0 : decide (0 ≤ x5_1) = true := decide_eq_true c16
             clear c16
             by_cases c17 : x5_1 < (x4_2.length : Int)
             ·rw [if_pos c17] at H
              have c17b0 : decide (x5_1 < (x4_2.length : Int)) = true := decide_eq_true c17
              clear c17
              by_cases c18 : 0 ≤ x6_2
              ·rw [if_pos c18] at H
               have c18b0 : decide (0 ≤ x6_2) = true := decide_eq_true c18
               clear c18
               by_cases c19 : x6_2 < ((rd_L5 x4_2 x5_1).length : Int)
               ·rw [if_pos c19] at H
                have c19b0 : decide (x6_2 < ((rd_L5 x4_2 x5_1).length : Int)) = true := decide_eq_true c19
                clear c19
                obtain ⟨y189, hy189⟩ : ∃ y_ : List Int, y_ = ((rd_L5 x4_2 x5_1).set (x6_2 : Int).toNat (-1)) := ⟨_, rfl⟩
                replace H : ((some (x4_2.set (x5_1 : Int).toNat y189 : List (List Int))).bind fun y191 => (if x5_1 < (l0.length : Int) then ((spec_HexSyllable.f k2 x6_2 ((rd_T30 l0 x5_1).f0) ((rd_T30 l0 x5_1).f1)).bind fun t193 => (if t193 < 0 then (spec_l2Fewest.l1 k2 l0 (l0.length : Int) y191 x5_1 (wrap64 (x6_2 + 1))) else (if x5_1 = (wrap64 ((l0.length : Int) - 1)) then (if x6_2 < ((rd_L5 y191 x5_1).length : Int) then (spec_l2Fewest.l1 k2 l0 (l0.length : Int) (y191.set (x5_1 : Int).toNat ((rd_L5 y191 x5_1).set (x6_2 : Int).toNat 0)) x5_1 (wrap64 (x6_2 + 1))) else (none)) else (spec_l2Fewest.l2 k2 l0 (l0.length : Int) y191 x5_1 x6_2 0)))) else (none))) = some r := by first | (rw [hy189]; with_reducible exact H) | (have H2_ := (Option.bind_some _ _).symm.trans H; rw [hy189]; with_reducible exact H2_) | (have H2_ := (Option.bind_some _ _).symm.trans H; with_reducible exact H2_) | with_reducible exact H | (rw [hy189]; exact H) | exact H
                have Ny189 := am hy189
                clear hy189
                obtain ⟨y191, hy191⟩ : ∃ y_ : List (List Int), y_ = (x4_2.set (x5_1 : Int).toNat y189) := ⟨_, rfl⟩
                replace H : (if x5_1 < (l0.length : Int) then ((spec_HexSyllable.f k2 x6_2 ((rd_T30 l0 x5_1).f0) ((rd_T30 l0 x5_1).f1)).bind fun t193 => (if t193 < 0 then (spec_l2Fewest.l1 k2 l0 (l0.length : Int) y191 x5_1 (wrap64 (x6_2 + 1))) else (if x5_1 = (wrap64 ((l0.length : Int) - 1)) then (if x6_2 < ((rd_L5 y191 x5_1).length : Int) then (spec_l2Fewest.l1 k2 l0 (l0.length : Int) (y191.set (x5_1 : Int).toNat ((rd_L5 y191 x5_1).set (x6_2 : Int).toNat 0)) x5_1 (wrap64 (x6_2 + 1))) else (none)) else (spec_l2Fewest.l2 k2 l0 (l0.length : Int) y191 x5_1 x6_2 0)))) else (none)) = some r := by first | (rw [hy191]; with_reducible exact H) | (have H2_ := (Option.bind_some _ _).symm.trans H; rw [hy191]; with_reducible exact H2_) | (have H2_ := (Option.bind_some _ _).symm.trans H; with_reducible exact H2_) | with_reducible exact H | (rw [hy191]; exact H) | exact H
                have Ny191 := am hy191
                clear hy191
                by_cases c21 : x5_1 < (l0.length : Int)
                ·rw [if_pos c21] at H
                 have c21b0 : decide (x5_1 < (l0.length : Int)) = true := decide_eq_true c21
                 clear c21
                 replace H := Option.bind_eq_some_iff.mp H
                 obtain ⟨t193, A220, H⟩ := H
                 replace H : (if t193 < 0 then (spec_l2Fewest.l1 k2 l0 (l0.length : Int) y191 x5_1 (wrap64 (x6_2 + 1))) else (if x5_1 = (wrap64 ((l0.length : Int) - 1)) then (if x6_2 < ((rd_L5 y191 x5_1).length : Int) then (spec_l2Fewest.l1 k2 l0 (l0.length : Int) (y191.set (x5_1 : Int).toNat ((rd_L5 y191 x5_1).set (x6_2 : Int).toNat 0)) x5_1 (wrap64 (x6_2 + 1))) else (none)) else (spec_l2Fewest.l2 k2 l0 (l0.length : Int) y191 x5_1 x6_2 0))) = some r := H
                 have A22 := am A220
                 clear A220
                 by_cases c23 : t193 < 0
                 ·rw [if_pos c23] at H
                  have c23b0 : decide (t193 < 0) = true := decide_eq_true c23
                  clear c23
                  have H' := am H
                  clear H
                  have p188 : 0 ≤ (x5_1 : Int) := od
                  have q188 : x5_1 < (x4_2.length : Int) := od
                  obtain ⟨ad188, A188_0, c188_0, e188, hx188_0, hl188_0, hi188_0⟩ := at_L5 (Kd.S_reads' HO_4.out).2.2 x5_1 p188 q188
                  obtain rfl : (⟨go10, 0, none⟩ : Addr) = ad188 := (by injection e188)
                  obtain ⟨ce188, hce188, hMe188, hcc188⟩ := Kd.S_get HO_4.out [] x5_1 p188 (by first | exact q188 | exact od | (have e_ := (Kd.S_reads' HO_4.out).1; omega))
                  obtain ⟨ve188_0, rfl, ge188_0⟩ := hMe188
                  have hv188_0 := hcc188 0 _ rfl
                  rw [Nat.add_zero, show ((Kd.slice 3 (Kd.int .i64))).sz = 1 from rfl, Nat.mul_one] at hv188_0
                  replace hv188_0 := Option.some.inj (hv188_0.symm.trans hx188_0)
                  rw [hv188_0] at ge188_0
                  have HL188_0 := am (show Kd.R (Kd.int .i64) 3 _ _ _ _ (rd_L5 x4_2 x5_1) from ge188_0)
                  clear hv188_0 ge188_0
                  have HX188_0 := am hx188_0
                  clear hcc188 hce188
                  (first | simp only [add_plain] at hx188_0 | simp only [add_at] at hx188_0 | simp only [Addr.add, Nat.zero_add] at hx188_0 | skip)
                  have HR188_0 := am hi188_0
                  have HC188_0 := am hl188_0
                  clear hi188_0 hl188_0
                  replace p188 := eq_true p188
                  replace q188 := eq_true q188
                  have p20 : 0 ≤ (x6_2 : Int) := od
                  have q20 : (x6_2 : Int) < (((rd_L5 x4_2 x5_1).length : Int) : Int) := od
                  obtain ⟨go20, co20, eo20, gb20, gl20, cl20, HG20⟩ := Kd.R_form HL188_0.out (by omega)
                  (first | cases eo20 | (injection eo20 with ea_ en_ ec_; (first | subst ea_ | (injection ea_ with ea_; subst ea_)); subst ec_; clear en_))
                  have GB20 := am gb20
                  have GG20 := am HG20
                  clear gb20 gl20 HG20
                  obtain ⟨hx20_0, hf20_0⟩ := Kd.R_celln 0 HL188_0.out (x6_2 : Int) p20 q20
                  replace p20 := eq_true p20
                  replace q20 := eq_true q20
                  have hq24 : (x5_1 : Int) < (x4_2.length : Int) := (by have h_ : (x5_1 : Int) < ((x4_2.length : Int) : Int) := od; first | exact h_ | (have e_ := (Kd.S_reads' HO_4.out).1; omega) | simpa only [List.length_set, List.length_set] using h_)
                  obtain ⟨oki24, ce24, hcl24, hM24, hcc24, hok24, hbk24⟩ := Kd.S_borrow HO_4.out [] (x5_1 : Int) (od) hq24
                  obtain ⟨ve24_0, rfl, ge24_0⟩ := hM24
                  have hv24 := hcc24 0 _ rfl
                  rw [Nat.add_zero, show ((Kd.slice 3 (Kd.int .i64))).sz = 1 from rfl, Nat.mul_one] at hv24
                  replace hv24 := Option.some.inj (hv24.symm.trans HX188_0.out)
                  subst hv24
                  clear hcc24 hcl24
                  replace ge24_0 := (show Kd.R (Kd.int .i64) 3 _ _ _ _ (rd_L5 x4_2 x5_1) from ge24_0)
                  have HP24 := Kd.R_putg ge24_0 (x6_2 : Int) (-1)
                  go_wp2_with (first | ((with_reducible refine gate_store (t := 3) (p := 32) rfl ?_); refine store_event (t := 3) (p := 32) (v := ?vo_w25) (w1 := (wr.setCell ⟨go20, (x6_2 : Int).toNat, none⟩ (.int .i64 (-1)))) ?hg ?ho ?hn ?hr ?_; (case ho => rfl); (case hg => rfl); (case hn => rfl); (case hr => first | (go_simp; done) | (go_simp; rfl)); intro w25 hw; have hg : wr.grownBy w25 (some go20) := (by rw [hw]; exact HP24.2); have hz_ : Kd.R (Kd.int .i64) 3 w25 w.heap.size oki24 (.slice (some ⟨go20, 0, none⟩) (rd_L5 x4_2 x5_1).length c188_0) y189 := (by rw [hw, Ny189.out]; exact HP24.1); have hp_ : Kd.S (Kd.slice 3 (Kd.int .i64)) 26 w25 w.heap.size (fun _ => True) (.slice (some ⟨go10, 0, none⟩) x4_2.length co10) y191 := (by rw [Ny191.out]; exact hbk24 hg (fun k_ e_ => by injection e_ with e_; subst e_; exact ge24_0.1 _ rfl) (Kd.M_row hz_)); have hm_ := Kd.R_mono hz_ hok24; clear HP24 hbk24; have n0_ := am (hp_); have n1_ := am ((by rw [hw]; exact below_set (HB.out) GB20.out : Below w.heap.size w w25)); have n2_ := am (hm_); have n3_ := am ((Kd.R_reads' hm_).2.1); clear HO_4; clear HB; clear HL188_0; have HO_4 := n0_; have HB := n1_; have HL224 := n2_; have HC190 := n3_; clear n0_ n1_ n2_ n3_; clear hg hw hp_ hz_ hm_ hok24; have p192 : 0 ≤ (x5_1 : Int) := od; have q192 : x5_1 < (l0.length : Int) := od; obtain ⟨ad192, e192, hx192_0, hx192_1⟩ := at_T30 HR0.out x5_1 p192 q192; cases e192; replace hx192_0 := (HB.out.cell (World.block_lt_of_cell? w _ hx192_0)).trans hx192_0; replace hx192_1 := (HB.out.cell (World.block_lt_of_cell? w _ hx192_1)).trans hx192_1; replace p192 := eq_true p192; replace q192 := eq_true q192) | ((with_reducible refine gate_callee (f := 102) rfl ?_); refine goesL_ (some 38) rfl rfl Tryd.func102 (by kernel_rfl) rfl #[.int .i64 x6_2, .agg #[.int .i64 ((rd_T30 l0 x5_1).f0), .bool ((rd_T30 l0 x5_1).f1)]] rfl (by (try simp only [List.map_toArray, List.map_cons, List.map_nil]); first | done | rfl | (simp only [List.length_drop, List.length_take]; rfl)) ?_; (with_reducible refine (spec_HexSyllable.calls k2 x6_2 ((rd_T30 l0 x5_1).f0) ((rd_T30 l0 x5_1).f1) t193 _ A22.out).mono ?_); rintro e w26 ⟨rfl, hb⟩; refine ⟨_, rfl, ?_⟩; have n0_ := am (Kd.S_below (by (with_reducible repeat (first | apply Kd.S_alloc | apply Kd.S_drewN | apply Kd.S_drew)); exact HO_4.out) hb); have n1_ := am (Kd.R_below (ru HL224.out) hb); have n2_ := am (below_step (bu HB.out) hb); clear HO_4; clear HL224; clear HB; have HO_4 := n0_; have HL224 := n1_; have HB := n2_; clear n0_ n1_ n2_; (try clear hb); (try clear hb2); (try clear hk); (try clear hi)))
                  (try simp only [← hl4_2])
                  go_roundg k2
                  case measure => have := HK1.out; have := HK2.out; omega
                  case rel => exact ⟨(y191), (wrap64 (x6_2 + 1)), (by first | rfl | (simp; done) | (simp [*]; done)), H', ⟨by have := HK1.out; have := HK2.out; omega⟩, ⟨by (try simp only [hl4_2]); (with_reducible repeat (first | apply Kd.S_alloc | apply Kd.S_drewN | apply Kd.S_drew)); exact HO_4.out⟩, ⟨bu HB.out⟩⟩
                 ·rw [if_neg c23] at H
                  have c23b0 : decide (t193 < 0) = false := decide_eq_false c23
                  clear c23
                  by_cases c27 : x5_1 = (wrap64 ((l0.length : Int) - 1))
                  ·rw [if_pos c27] at H
                   have c27b0 : (x5_1 == (wrap64 ((l0.length : Int) - 1))) = true := beq_iff_eq.mpr c27
                   have c27b1 : (x5_1 != (wrap64 ((l0.length : Int) - 1))) = false := bne_eq_false_iff_eq.mpr c27
                   clear c27
                   by_cases c28 : x6_2 < ((rd_L5 y191 x5_1).length : Int)
                   ·rw [if_pos c28] at H
                    have c28b0 : decide (x6_2 < ((rd_L5 y191 x5_1).length : Int)) = true := decide_eq_true c28
                    clear c28
                    obtain ⟨y195, hy195⟩ : ∃ y_ : List Int, y_ = ((rd_L5 y191 x5_1).set (x6_2 : Int).toNat 0) := ⟨_, rfl⟩
                    replace H : (spec_l2Fewest.l1 k2 l0 (l0.length : Int) (y191.set (x5_1 : Int).toNat y195) x5_1 (wrap64 (x6_2 + 1))) = some r := by first | (rw [hy195]; with_reducible exact H) | (have H2_ := (Option.bind_some _ _).symm.trans H; rw [hy195]; with_reducible exact H2_) | (have H2_ := (Option.bind_some _ _).symm.trans H; with_reducible exact H2_) | with_reducible exact H | (rw [hy195]; exact H) | exact H
                    have Ny195 := am hy195
                    clear hy195
                    obtain ⟨y197, hy197⟩ : ∃ y_ : List (List Int), y_ = (y191.set (x5_1 : Int).toNat y195) := ⟨_, rfl⟩
                    replace H : (spec_l2Fewest.l1 k2 l0 (l0.length : Int) y197 x5_1 (wrap64 (x6_2 + 1))) = some r := by first | (rw [hy197]; with_reducible exact H) | (have H2_ := (Option.bind_some _ _).symm.trans H; rw [hy197]; with_reducible exact H2_) | (have H2_ := (Option.bind_some _ _).symm.trans H; with_reducible exact H2_) | with_reducible exact H | (rw [hy197]; exact H) | exact H
                    have Ny197 := am hy197
                    clear hy197
                    have H' := am H
                    clear H
                    have p188 : 0 ≤ (x5_1 : Int) := od
                    have q188 : x5_1 < (x4_2.length : Int) := od
                    obtain ⟨ad188, A188_0, c188_0, e188, hx188_0, hl188_0, hi188_0⟩ := at_L5 (Kd.S_reads' HO_4.out).2.2 x5_1 p188 q188
                    obtain rfl : (⟨go10, 0, none⟩ : Addr) = ad188 := (by injection e188)
                    obtain ⟨ce188, hce188, hMe188, hcc188⟩ := Kd.S_get HO_4.out [] x5_1 p188 (by first | exact q188 | exact od | (have e_ := (Kd.S_reads' HO_4.out).1; omega))
                    obtain ⟨ve188_0, rfl, ge188_0⟩ := hMe188
                    have hv188_0 := hcc188 0 _ rfl
                    rw [Nat.add_zero, show ((Kd.slice 3 (Kd.int .i64))).sz = 1 from rfl, Nat.mul_one] at hv188_0
                    replace hv188_0 := Option.some.inj (hv188_0.symm.trans hx188_0)
                    rw [hv188_0] at ge188_0
                    have HL188_0 := am (show Kd.R (Kd.int .i64) 3 _ _ _ _ (rd_L5 x4_2 x5_1) from ge188_0)
                    clear hv188_0 ge188_0
                    have HX188_0 := am hx188_0
                    clear hcc188 hce188
                    (first | simp only [add_plain] at hx188_0 | simp only [add_at] at hx188_0 | simp only [Addr.add, Nat.zero_add] at hx188_0 | skip)
                    have HR188_0 := am hi188_0
                    have HC188_0 := am hl188_0
                    clear hi188_0 hl188_0
                    replace p188 := eq_true p188
                    replace q188 := eq_true q188
                    have p20 : 0 ≤ (x6_2 : Int) := od
                    have q20 : (x6_2 : Int) < (((rd_L5 x4_2 x5_1).length : Int) : Int) := od
                    obtain ⟨go20, co20, eo20, gb20, gl20, cl20, HG20⟩ := Kd.R_form HL188_0.out (by omega)
                    (first | cases eo20 | (injection eo20 with ea_ en_ ec_; (first | subst ea_ | (injection ea_ with ea_; subst ea_)); subst ec_; clear en_))
                    have GB20 := am gb20
                    have GG20 := am HG20
                    clear gb20 gl20 HG20
                    obtain ⟨hx20_0, hf20_0⟩ := Kd.R_celln 0 HL188_0.out (x6_2 : Int) p20 q20
                    replace p20 := eq_true p20
                    replace q20 := eq_true q20
                    have hq30 : (x5_1 : Int) < (x4_2.length : Int) := (by have h_ : (x5_1 : Int) < ((x4_2.length : Int) : Int) := od; first | exact h_ | (have e_ := (Kd.S_reads' HO_4.out).1; omega) | simpa only [List.length_set, List.length_set] using h_)
                    obtain ⟨oki30, ce30, hcl30, hM30, hcc30, hok30, hbk30⟩ := Kd.S_borrow HO_4.out [] (x5_1 : Int) (od) hq30
                    obtain ⟨ve30_0, rfl, ge30_0⟩ := hM30
                    have hv30 := hcc30 0 _ rfl
                    rw [Nat.add_zero, show ((Kd.slice 3 (Kd.int .i64))).sz = 1 from rfl, Nat.mul_one] at hv30
                    replace hv30 := Option.some.inj (hv30.symm.trans HX188_0.out)
                    subst hv30
                    clear hcc30 hcl30
                    replace ge30_0 := (show Kd.R (Kd.int .i64) 3 _ _ _ _ (rd_L5 x4_2 x5_1) from ge30_0)
                    have HP30 := Kd.R_putg ge30_0 (x6_2 : Int) (-1)
                    go_wp2_with (first | ((with_reducible refine gate_store (t := 3) (p := 32) rfl ?_); refine store_event (t := 3) (p := 32) (v := ?vo_w31) (w1 := (wr.setCell ⟨go20, (x6_2 : Int).toNat, none⟩ (.int .i64 (-1)))) ?hg ?ho ?hn ?hr ?_; (case ho => rfl); (case hg => rfl); (case hn => rfl); (case hr => first | (go_simp; done) | (go_simp; rfl)); intro w31 hw; have hg : wr.grownBy w31 (some go20) := (by rw [hw]; exact HP30.2); have hz_ : Kd.R (Kd.int .i64) 3 w31 w.heap.size oki30 (.slice (some ⟨go20, 0, none⟩) (rd_L5 x4_2 x5_1).length c188_0) y189 := (by rw [hw, Ny189.out]; exact HP30.1); have hp_ : Kd.S (Kd.slice 3 (Kd.int .i64)) 26 w31 w.heap.size (fun _ => True) (.slice (some ⟨go10, 0, none⟩) x4_2.length co10) y191 := (by rw [Ny191.out]; exact hbk30 hg (fun k_ e_ => by injection e_ with e_; subst e_; exact ge30_0.1 _ rfl) (Kd.M_row hz_)); have hm_ := Kd.R_mono hz_ hok30; clear HP30 hbk30; have n0_ := am (hp_); have n1_ := am ((by rw [hw]; exact below_set (HB.out) GB20.out : Below w.heap.size w w31)); have n2_ := am (hm_); have n3_ := am ((Kd.R_reads' hm_).2.1); clear HO_4; clear HB; clear HL188_0; have HO_4 := n0_; have HB := n1_; have HL225 := n2_; have HC190 := n3_; clear n0_ n1_ n2_ n3_; clear hg hw hp_ hz_ hm_ hok30; have p192 : 0 ≤ (x5_1 : Int) := od; have q192 : x5_1 < (l0.length : Int) := od; obtain ⟨ad192, e192, hx192_0, hx192_1⟩ := at_T30 HR0.out x5_1 p192 q192; cases e192; replace hx192_0 := (HB.out.cell (World.block_lt_of_cell? w _ hx192_0)).trans hx192_0; replace hx192_1 := (HB.out.cell (World.block_lt_of_cell? w _ hx192_1)).trans hx192_1; replace p192 := eq_true p192; replace q192 := eq_true q192) | ((with_reducible refine gate_callee (f := 102) rfl ?_); refine goesL_ (some 38) rfl rfl Tryd.func102 (by kernel_rfl) rfl #[.int .i64 x6_2, .agg #[.int .i64 ((rd_T30 l0 x5_1).f0), .bool ((rd_T30 l0 x5_1).f1)]] rfl (by (try simp only [List.map_toArray, List.map_cons, List.map_nil]); first | done | rfl | (simp only [List.length_drop, List.length_take]; rfl)) ?_; (with_reducible refine (spec_HexSyllable.calls k2 x6_2 ((rd_T30 l0 x5_1).f0) ((rd_T30 l0 x5_1).f1) t193 _ A22.out).mono ?_); rintro e w32 ⟨rfl, hb⟩; refine ⟨_, rfl, ?_⟩; have n0_ := am (Kd.S_below (by (with_reducible repeat (first | apply Kd.S_alloc | apply Kd.S_drewN | apply Kd.S_drew)); exact HO_4.out) hb); have n1_ := am (Kd.R_below (ru HL225.out) hb); have n2_ := am (below_step (bu HB.out) hb); clear HO_4; clear HL225; clear HB; have HO_4 := n0_; have HL225 := n1_; have HB := n2_; clear n0_ n1_ n2_; (try clear hb); (try clear hb2); (try clear hk); (try clear hi); have p194 : 0 ≤ (x5_1 : Int) := od; have q194 : x5_1 < (y191.length : Int) := (by have h_ : (x5_1 : Int) < ((x4_2.length : Int) : Int) := od; first | (have e_ := (Kd.S_reads' HO_4.out).1; omega) | simpa only [Ny191.out, List.length_set] using h_); have ql194 : ((x5_1 : Int) < ((x4_2.length : Int) : Int)) = True := eq_true (od); obtain ⟨ad194, A194_0, c194_0, e194, hx194_0, hl194_0, hi194_0⟩ := at_L5 (Kd.S_reads' HO_4.out).2.2 x5_1 p194 q194; obtain rfl : (⟨go10, 0, none⟩ : Addr) = ad194 := (by injection e194); obtain ⟨ce194, hce194, hMe194, hcc194⟩ := Kd.S_get HO_4.out [] x5_1 p194 (by first | exact q194 | exact od | (have e_ := (Kd.S_reads' HO_4.out).1; omega)); obtain ⟨ve194_0, rfl, ge194_0⟩ := hMe194; have hv194_0 := hcc194 0 _ rfl; rw [Nat.add_zero, show ((Kd.slice 3 (Kd.int .i64))).sz = 1 from rfl, Nat.mul_one] at hv194_0; replace hv194_0 := Option.some.inj (hv194_0.symm.trans hx194_0); rw [hv194_0] at ge194_0; have HL194_0 := am (show Kd.R (Kd.int .i64) 3 _ _ _ _ (rd_L5 y191 x5_1) from ge194_0); clear hv194_0 ge194_0; have HX194_0 := am hx194_0; clear hcc194 hce194; (first | simp only [add_plain] at hx194_0 | simp only [add_at] at hx194_0 | simp only [Addr.add, Nat.zero_add] at hx194_0 | skip); have HR194_0 := am hi194_0; have HC194_0 := am hl194_0; clear hi194_0 hl194_0; replace p194 := eq_true p194; replace q194 := eq_true q194; have p29 : 0 ≤ (x6_2 : Int) := od; have q29 : (x6_2 : Int) < (((rd_L5 y191 x5_1).length : Int) : Int) := od; obtain ⟨go29, co29, eo29, gb29, gl29, cl29, HG29⟩ := Kd.R_form HL194_0.out (by omega); (first | cases eo29 | (injection eo29 with ea_ en_ ec_; (first | subst ea_ | (injection ea_ with ea_; subst ea_)); subst ec_; clear en_)); have GB29 := am gb29; have GG29 := am HG29; clear gb29 gl29 HG29; obtain ⟨hx29_0, hf29_0⟩ := Kd.R_celln 0 HL194_0.out (x6_2 : Int) p29 q29; replace p29 := eq_true p29; replace q29 := eq_true q29; have hq33 : (x5_1 : Int) < (y191.length : Int) := (by have h_ : (x5_1 : Int) < ((x4_2.length : Int) : Int) := od; first | exact h_ | (have e_ := (Kd.S_reads' HO_4.out).1; omega) | simpa only [Ny191.out, List.length_set] using h_); obtain ⟨oki33, ce33, hcl33, hM33, hcc33, hok33, hbk33⟩ := Kd.S_borrow HO_4.out [] (x5_1 : Int) (od) (by first | exact hq33 | exact od); obtain ⟨ve33_0, rfl, ge33_0⟩ := hM33; have hv33 := hcc33 0 _ rfl; rw [Nat.add_zero, show ((Kd.slice 3 (Kd.int .i64))).sz = 1 from rfl, Nat.mul_one] at hv33; replace hv33 := Option.some.inj (hv33.symm.trans HX194_0.out); subst hv33; clear hcc33 hcl33; replace ge33_0 := (show Kd.R (Kd.int .i64) 3 _ _ _ _ (rd_L5 y191 x5_1) from ge33_0); have HP33 := Kd.R_putg ge33_0 (x6_2 : Int) 0) | ((with_reducible refine gate_store (t := 3) (p := 49) rfl ?_); refine store_event (t := 3) (p := 49) (v := ?vo_w34) (w1 := (w32.setCell ⟨go29, (x6_2 : Int).toNat, none⟩ (.int .i64 0))) ?hg ?ho ?hn ?hr ?_; (case ho => rfl); (case hg => rfl); (case hn => rfl); (case hr => first | (go_simp; done) | (go_simp; rfl)); intro w34 hw; have hg : w32.grownBy w34 (some go29) := (by rw [hw]; exact HP33.2); have hz_ : Kd.R (Kd.int .i64) 3 w34 w.heap.size oki33 (.slice (some ⟨go29, 0, none⟩) (rd_L5 y191 x5_1).length c194_0) y195 := (by rw [hw, Ny195.out]; exact HP33.1); have hp_ : Kd.S (Kd.slice 3 (Kd.int .i64)) 26 w34 w.heap.size (fun _ => True) (.slice (some ⟨go10, 0, none⟩) x4_2.length co10) y197 := (by rw [Ny197.out]; exact hbk33 hg (fun k_ e_ => by injection e_ with e_; subst e_; exact ge33_0.1 _ rfl) (Kd.M_row hz_)); have hm_ := Kd.R_mono hz_ hok33; clear HP33 hbk33; have n0_ := am (hp_); have n1_ := am ((by rw [hw]; exact below_set (HB.out) GB29.out : Below w.heap.size w w34)); have n2_ := am (hm_); have n3_ := am ((Kd.R_reads' hm_).2.1); clear HO_4; clear HB; clear HL225; clear HL194_0; have HO_4 := n0_; have HB := n1_; have HL226 := n2_; have HC196 := n3_; clear n0_ n1_ n2_ n3_; clear hg hw hp_ hz_ hm_ hok33))
                    (try simp only [← hl4_2])
                    go_roundg k2
                    case measure => have := HK1.out; have := HK2.out; omega
                    case rel => exact ⟨(y197), (wrap64 (x6_2 + 1)), (by first | rfl | (simp; done) | (simp [*]; done)), H', ⟨by have := HK1.out; have := HK2.out; omega⟩, ⟨by (try simp only [hl4_2]); (with_reducible repeat (first | apply Kd.S_alloc | apply Kd.S_drewN | apply Kd.S_drew)); exact HO_4.out⟩, ⟨bu HB.out⟩⟩
                   ·rw [if_neg c28] at H
                    exact absurd H (by simp)
                  ·rw [if_neg c27] at H
                   have c27b0 : (x5_1 == (wrap64 ((l0.length : Int) - 1))) = false := beq_eq_false_iff_ne.mpr c27
                   have c27b1 : (x5_1 != (wrap64 ((l0.length : Int) - 1))) = true := bne_iff_ne.mpr c27
                   have H' := am H
                   clear H
                   have p188 : 0 ≤ (x5_1 : Int) := od
                   have q188 : x5_1 < (x4_2.length : Int) := od
                   obtain ⟨ad188, A188_0, c188_0, e188, hx188_0, hl188_0, hi188_0⟩ := at_L5 (Kd.S_reads' HO_4.out).2.2 x5_1 p188 q188
                   obtain rfl : (⟨go10, 0, none⟩ : Addr) = ad188 := (by injection e188)
                   obtain ⟨ce188, hce188, hMe188, hcc188⟩ := Kd.S_get HO_4.out [] x5_1 p188 (by first | exact q188 | exact od | (have e_ := (Kd.S_reads' HO_4.out).1; omega))
                   obtain ⟨ve188_0, rfl, ge188_0⟩ := hMe188
                   have hv188_0 := hcc188 0 _ rfl
                   rw [Nat.add_zero, show ((Kd.slice 3 (Kd.int .i64))).sz = 1 from rfl, Nat.mul_one] at hv188_0
                   replace hv188_0 := Option.some.inj (hv188_0.symm.trans hx188_0)
                   rw [hv188_0] at ge188_0
                   have HL188_0 := am (show Kd.R (Kd.int .i64) 3 _ _ _ _ (rd_L5 x4_2 x5_1) from ge188_0)
                   clear hv188_0 ge188_0
                   have HX188_0 := am hx188_0
                   clear hcc188 hce188
                   (first | simp only [add_plain] at hx188_0 | simp only [add_at] at hx188_0 | simp only [Addr.add, Nat.zero_add] at hx188_0 | skip)
                   have HR188_0 := am hi188_0
                   have HC188_0 := am hl188_0
                   clear hi188_0 hl188_0
                   replace p188 := eq_true p188
                   replace q188 := eq_true q188
                   have p20 : 0 ≤ (x6_2 : Int) := od
                   have q20 : (x6_2 : Int) < (((rd_L5 x4_2 x5_1).length : Int) : Int) := od
                   obtain ⟨go20, co20, eo20, gb20, gl20, cl20, HG20⟩ := Kd.R_form HL188_0.out (by omega)
                   (first | cases eo20 | (injection eo20 with ea_ en_ ec_; (first | subst ea_ | (injection ea_ with ea_; subst ea_)); subst ec_; clear en_))
                   have GB20 := am gb20
                   have GG20 := am HG20
                   clear gb20 gl20 HG20
                   obtain ⟨hx20_0, hf20_0⟩ := Kd.R_celln 0 HL188_0.out (x6_2 : Int) p20 q20
                   replace p20 := eq_true p20
                   replace q20 := eq_true q20
                   have hq35 : (x5_1 : Int) < (x4_2.length : Int) := (by have h_ : (x5_1 : Int) < ((x4_2.length : Int) : Int) := od; first | exact h_ | (have e_ := (Kd.S_reads' HO_4.out).1; omega) | simpa only [List.length_set, List.length_set] using h_)
                   obtain ⟨oki35, ce35, hcl35, hM35, hcc35, hok35, hbk35⟩ := Kd.S_borrow HO_4.out [] (x5_1 : Int) (od) hq35
                   obtain ⟨ve35_0, rfl, ge35_0⟩ := hM35
                   have hv35 := hcc35 0 _ rfl
                   rw [Nat.add_zero, show ((Kd.slice 3 (Kd.int .i64))).sz = 1 from rfl, Nat.mul_one] at hv35
                   replace hv35 := Option.some.inj (hv35.symm.trans HX188_0.out)
                   subst hv35
                   clear hcc35 hcl35
                   replace ge35_0 := (show Kd.R (Kd.int .i64) 3 _ _ _ _ (rd_L5 x4_2 x5_1) from ge35_0)
                   have HP35 := Kd.R_putg ge35_0 (x6_2 : Int) (-1)
                   go_wp2_with (first | ((with_reducible refine gate_store (t := 3) (p := 32) rfl ?_); refine store_event (t := 3) (p := 32) (v := ?vo_w36) (w1 := (wr.setCell ⟨go20, (x6_2 : Int).toNat, none⟩ (.int .i64 (-1)))) ?hg ?ho ?hn ?hr ?_; (case ho => rfl); (case hg => rfl); (case hn => rfl); (case hr => first | (go_simp; done) | (go_simp; rfl)); intro w36 hw; have hg : wr.grownBy w36 (some go20) := (by rw [hw]; exact HP35.2); have hz_ : Kd.R (Kd.int .i64) 3 w36 w.heap.size oki35 (.slice (some ⟨go20, 0, none⟩) (rd_L5 x4_2 x5_1).length c188_0) y189 := (by rw [hw, Ny189.out]; exact HP35.1); have hp_ : Kd.S (Kd.slice 3 (Kd.int .i64)) 26 w36 w.heap.size (fun _ => True) (.slice (some ⟨go10, 0, none⟩) x4_2.length co10) y191 := (by rw [Ny191.out]; exact hbk35 hg (fun k_ e_ => by injection e_ with e_; subst e_; exact ge35_0.1 _ rfl) (Kd.M_row hz_)); have hm_ := Kd.R_mono hz_ hok35; clear HP35 hbk35; have n0_ := am (hp_); have n1_ := am ((by rw [hw]; exact below_set (HB.out) GB20.out : Below w.heap.size w w36)); have n2_ := am (hm_); have n3_ := am ((Kd.R_reads' hm_).2.1); clear HO_4; clear HB; clear HL188_0; have HO_4 := n0_; have HB := n1_; have HL227 := n2_; have HC190 := n3_; clear n0_ n1_ n2_ n3_; clear hg hw hp_ hz_ hm_ hok35; have p192 : 0 ≤ (x5_1 : Int) := od; have q192 : x5_1 < (l0.length : Int) := od; obtain ⟨ad192, e192, hx192_0, hx192_1⟩ := at_T30 HR0.out x5_1 p192 q192; cases e192; replace hx192_0 := (HB.out.cell (World.block_lt_of_cell? w _ hx192_0)).trans hx192_0; replace hx192_1 := (HB.out.cell (World.block_lt_of_cell? w _ hx192_1)).trans hx192_1; replace p192 := eq_true p192; replace q192 := eq_true q192) | ((with_reducible refine gate_callee (f := 102) rfl ?_); refine goesL_ (some 38) rfl rfl Tryd.func102 (by kernel_rfl) rfl #[.int .i64 x6_2, .agg #[.int .i64 ((rd_T30 l0 x5_1).f0), .bool ((rd_T30 l0 x5_1).f1)]] rfl (by (try simp only [List.map_toArray, List.map_cons, List.map_nil]); first | done | rfl | (simp only [List.length_drop, List.length_take]; rfl)) ?_; (with_reducible refine (spec_HexSyllable.calls k2 x6_2 ((rd_T30 l0 x5_1).f0) ((rd_T30 l0 x5_1).f1) t193 _ A22.out).mono ?_); rintro e w37 ⟨rfl, hb⟩; refine ⟨_, rfl, ?_⟩; have n0_ := am (Kd.S_below (by (with_reducible repeat (first | apply Kd.S_alloc | apply Kd.S_drewN | apply Kd.S_drew)); exact HO_4.out) hb); have n1_ := am (Kd.R_below (ru HL227.out) hb); have n2_ := am (below_step (bu HB.out) hb); clear HO_4; clear HL227; clear HB; have HO_4 := n0_; have HL227 := n1_; have HB := n2_; clear n0_ n1_ n2_; (try clear hb); (try clear hb2); (try clear hk); (try clear hi)))
                   go_loopg [7] k2 (fun kq v7 w' => ∃ (x4_3 : List (List Int)) (x7_3 : Int), v7 = .int .i64 x7_3 ∧ Aside0 (spec_l2Fewest.l2 kq l0 (l0.length : Int) x4_3 x5_1 x6_2 x7_3 = some r) ∧ Aside0 (kq ≤ k2) ∧ Aside0 (Kd.S (Kd.slice 3 (Kd.int .i64)) 26 w' w.heap.size (fun _ => True) (.slice (some ⟨go10, 0, none⟩) x4_2.length co10) x4_3) ∧ Aside0 (Below w.heap.size w w'))
                   case atStart => exact ⟨(y191), (0), (by first | rfl | (simp; done) | (simp [*]; done)), H', ⟨Nat.le_refl _⟩, ⟨by (try simp only [hl4_2]); (with_reducible repeat (first | apply Kd.S_alloc | apply Kd.S_drewN | apply Kd.S_drew)); exact HO_4.out⟩, ⟨bu HB.out⟩⟩
                   case round =>
                    clear H'
                    try clear c1
                    try clear p1
                    try clear q1
                    try clear hx1
                    try clear hf1
                    try clear c2
                    try clear c2b0
                    try clear c2b1
                    try clear p2
                    try clear q2
                    try clear hx2
                    try clear hf2
                    try clear c3
                    try clear c3b0
                    try clear c3b1
                    try clear q3
                    try clear c6
                    try clear c6b0
                    try clear p6
                    try clear c7
                    try clear c7b0
                    try clear c7b1
                    try clear c8
                    try clear c8b0
                    try clear c9
                    try clear c9b0
                    try clear c10
                    try clear p10
                    try clear q10
                    try clear hx10
                    try clear hf10
                    try clear c13
                    try clear hx13
                    try clear hf13
                    try clear c15
                    try clear c15b0
                    try clear c16
                    try clear c16b0
                    try clear c17
                    try clear c17b0
                    try clear c18
                    try clear c18b0
                    try clear p18
                    try clear q18
                    try clear hx18
                    try clear c19
                    try clear c19b0
                    try clear p19
                    try clear q19
                    try clear hx19
                    try clear p20
                    try clear q20
                    try clear hx20
                    try clear hf20
                    try clear c21
                    try clear c21b0
                    try clear c23
                    try clear c23b0
                    try clear c24
                    try clear q24
                    try clear c27
                    try clear c27b0
                    try clear c27b1
                    try clear c28
                    try clear c28b0
                    try clear p29
                    try clear q29
                    try clear hx29
                    try clear hf29
                    try clear c30
                    try clear q30
                    try clear c33
                    try clear q33
                    try clear c35
                    try clear q35
                    try clear hx10_0
                    try clear hx13_0
                    try clear hx188_0
                    try clear hx192_0
                    try clear hx192_1
                    try clear hx194_0
                    try clear hx20_0
                    try clear hx29_0
                    try clear p1
                    try clear p10
                    try clear p188
                    try clear p192
                    try clear p194
                    try clear p2
                    try clear p20
                    try clear p29
                    try clear p6
                    try clear q1
                    try clear q10
                    try clear q188
                    try clear q192
                    try clear q194
                    try clear q20
                    try clear q29
                    obtain ⟨x4_3, x7_3, rfl, HA, HK3, HO_4, HB⟩ := hrel
                    have hl4_3 := (Kd.S_reads' HO_4.out).1
                    rw [hl4_3] at HO_4
                    (try simp only [hl4_3])
                    cases gk with
                    | zero => exact absurd HA.out (by simp [spec_l2Fewest.l2])
                    | succ k3 =>
                     have H := HA.out
                     clear HA
                     simp only [spec_l2Fewest.l2] at H
                     by_cases c38 : x7_3 ≤ 20
                     ·rw [if_pos c38] at H
                      have c38b0 : decide (x7_3 ≤ 20) = true := decide_eq_true c38
                      clear c38
                      obtain ⟨ji39, hji39⟩ : ∃ j_ : Int, (wrap64 (x5_1 + 1)) = j_ := ⟨_, rfl⟩
                      replace H : (if 0 ≤ (ji39) then (if (ji39) < (x4_3.length : Int) then (if 0 ≤ x7_3 then (if x7_3 < ((rd_L5 x4_3 (ji39)).length : Int) then (if (rd (rd_L5 x4_3 (ji39)) x7_3) < 0 then (spec_l2Fewest.l2 k3 l0 (l0.length : Int) x4_3 x5_1 x6_2 (wrap64 (x7_3 + 1))) else (if x7_3 = x6_2 then (if 0 ≤ x5_1 then (if x5_1 < (x4_3.length : Int) then (if 0 ≤ x6_2 then (if x6_2 < ((rd_L5 x4_3 x5_1).length : Int) then (if (rd (rd_L5 x4_3 x5_1) x6_2) < 0 then (spec_l2Fewest.l2 k3 l0 (l0.length : Int) (x4_3.set (x5_1 : Int).toNat ((rd_L5 x4_3 x5_1).set (x6_2 : Int).toNat (rd (rd_L5 x4_3 (ji39)) x7_3))) x5_1 x6_2 (wrap64 (x7_3 + 1))) else (if (rd (rd_L5 x4_3 (ji39)) x7_3) < (rd (rd_L5 x4_3 x5_1) x6_2) then (spec_l2Fewest.l2 k3 l0 (l0.length : Int) (x4_3.set (x5_1 : Int).toNat ((rd_L5 x4_3 x5_1).set (x6_2 : Int).toNat (rd (rd_L5 x4_3 (ji39)) x7_3))) x5_1 x6_2 (wrap64 (x7_3 + 1))) else (spec_l2Fewest.l2 k3 l0 (l0.length : Int) x4_3 x5_1 x6_2 (wrap64 (x7_3 + 1))))) else (none)) else (none)) else (none)) else (none)) else (if 0 ≤ x5_1 then (if x5_1 < (x4_3.length : Int) then (if 0 ≤ x6_2 then (if x6_2 < ((rd_L5 x4_3 x5_1).length : Int) then (if (rd (rd_L5 x4_3 x5_1) x6_2) < 0 then (spec_l2Fewest.l2 k3 l0 (l0.length : Int) (x4_3.set (x5_1 : Int).toNat ((rd_L5 x4_3 x5_1).set (x6_2 : Int).toNat (wrap64 ((rd (rd_L5 x4_3 (ji39)) x7_3) + 1)))) x5_1 x6_2 (wrap64 (x7_3 + 1))) else (if (wrap64 ((rd (rd_L5 x4_3 (ji39)) x7_3) + 1)) < (rd (rd_L5 x4_3 x5_1) x6_2) then (spec_l2Fewest.l2 k3 l0 (l0.length : Int) (x4_3.set (x5_1 : Int).toNat ((rd_L5 x4_3 x5_1).set (x6_2 : Int).toNat (wrap64 ((rd (rd_L5 x4_3 (ji39)) x7_3) + 1)))) x5_1 x6_2 (wrap64 (x7_3 + 1))) else (spec_l2Fewest.l2 k3 l0 (l0.length : Int) x4_3 x5_1 x6_2 (wrap64 (x7_3 + 1))))) else (none)) else (none)) else (none)) else (none)))) else (none)) else (none)) else (none)) else (none)) = some r := by first | (rw [hji39] at H; exact H) | (simp only [hji39] at H ⊢; exact H)
                      have hji39w : (IntKind.i64.wrap (x5_1 + 1)) = ji39 := (i64_w _).trans hji39
                      by_cases c40 : 0 ≤ (ji39)
                      ·rw [if_pos c40] at H
                       have c40b0 : decide (0 ≤ (ji39)) = true := decide_eq_true c40
                       clear c40
                       by_cases c41 : (ji39) < (x4_3.length : Int)
                       ·rw [if_pos c41] at H
                        have c41b0 : decide ((ji39) < (x4_3.length : Int)) = true := decide_eq_true c41
                        clear c41
                        by_cases c42 : 0 ≤ x7_3
                        ·rw [if_pos c42] at H
                         have c42b0 : decide (0 ≤ x7_3) = true := decide_eq_true c42
                         clear c42
                         by_cases c43 : x7_3 < ((rd_L5 x4_3 (ji39)).length : Int)
                         ·rw [if_pos c43] at H
                          have c43b0 : decide (x7_3 < ((rd_L5 x4_3 (ji39)).length : Int)) = true := decide_eq_true c43
                          clear c43
                          by_cases c44 : (rd (rd_L5 x4_3 (ji39)) x7_3) < 0
                          ·rw [if_pos c44] at H
                           have c44b0 : decide ((rd (rd_L5 x4_3 (ji39)) x7_3) < 0) = true := decide_eq_true c44
                           clear c44
                           have H' := am H
                           clear H
                           have p198 : 0 ≤ ((ji39) : Int) := od
                           have q198 : (ji39) < (x4_3.length : Int) := od
                           obtain ⟨ad198, A198_0, c198_0, e198, hx198_0, hl198_0, hi198_0⟩ := at_L5 (Kd.S_reads' HO_4.out).2.2 (ji39) p198 q198
                           obtain rfl : (⟨go10, 0, none⟩ : Addr) = ad198 := (by injection e198)
                           obtain ⟨ce198, hce198, hMe198, hcc198⟩ := Kd.S_get HO_4.out [] (ji39) p198 (by first | exact q198 | exact od | (have e_ := (Kd.S_reads' HO_4.out).1; omega))
                           obtain ⟨ve198_0, rfl, ge198_0⟩ := hMe198
                           have hv198_0 := hcc198 0 _ rfl
                           rw [Nat.add_zero, show ((Kd.slice 3 (Kd.int .i64))).sz = 1 from rfl, Nat.mul_one] at hv198_0
                           replace hv198_0 := Option.some.inj (hv198_0.symm.trans hx198_0)
                           rw [hv198_0] at ge198_0
                           have HL198_0 := am (show Kd.R (Kd.int .i64) 3 _ _ _ _ (rd_L5 x4_3 (ji39)) from ge198_0)
                           clear hv198_0 ge198_0
                           have HX198_0 := am hx198_0
                           clear hcc198 hce198
                           (first | simp only [add_plain] at hx198_0 | simp only [add_at] at hx198_0 | simp only [Addr.add, Nat.zero_add] at hx198_0 | skip)
                           have HR198_0 := am hi198_0
                           have HC198_0 := am hl198_0
                           clear hi198_0 hl198_0
                           replace p198 := eq_true p198
                           replace q198 := eq_true q198
                           have p199 : 0 ≤ (x7_3 : Int) := od
                           have q199 : x7_3 < ((rd_L5 x4_3 (ji39)).length : Int) := od
                           obtain ⟨ad199, e199, hx199_0⟩ := Kd.at_int (by repeat (first | (with_reducible exact HR198_0.out) | (with_reducible refine Kd.C_alloc ?_ _) | (with_reducible refine Kd.C_drewN ?_ _) | (with_reducible refine Kd.C_drew ?_) | exact HR198_0.out)) x7_3 p199 q199
                           cases e199
                           replace p199 := eq_true p199
                           replace q199 := eq_true q199
                           go_wp2
                           (try simp only [← hl4_3])
                           go_roundg k3
                           case measure => have := HK1.out; have := HK2.out; have := HK3.out; omega
                           case rel => exact ⟨(x4_3), (wrap64 (x7_3 + 1)), (by first | rfl | (simp; done) | (simp [*]; done)), H', ⟨by have := HK1.out; have := HK2.out; have := HK3.out; omega⟩, ⟨by (try simp only [hl4_2]); (try simp only [hl4_3]); (with_reducible repeat (first | apply Kd.S_alloc | apply Kd.S_drewN | apply Kd.S_drew)); exact HO_4.out⟩, ⟨bu HB.out⟩⟩
                          ·rw [if_neg c44] at H
                           have c44b0 : decide ((rd (rd_L5 x4_3 (ji39)) x7_3) < 0) = false := decide_eq_false c44
                           clear c44
                           by_cases c45 : x7_3 = x6_2
                           ·rw [if_pos c45] at H
                            have c45b0 : (x7_3 == x6_2) = true := beq_iff_eq.mpr c45
                            have c45b1 : (x7_3 != x6_2) = false := bne_eq_false_iff_eq.mpr c45
                            clear c45
                            by_cases c46 : 0 ≤ x5_1
                            ·rw [if_pos c46] at H
                             have c46b0 : decide (0 ≤ x5_1) = true := decide_eq_true c46
                             clear c46
                             by_cases c47 : x5_1 < (x4_3.length : Int)
                             ·rw [if_pos c47] at H
                              have c47b0 : decide (x5_1 < (x4_3.length : Int)) = true := decide_eq_true c47
                              clear c47
                              by_cases c48 : 0 ≤ x6_2
                              ·rw [if_pos c48] at H
                               have c48b0 : decide (0 ≤ x6_2) = true := decide_eq_true c48
                               clear c48
                               by_cases c49 : x6_2 < ((rd_L5 x4_3 x5_1).length : Int)
                               ·rw [if_pos c49] at H
                                have c49b0 : decide (x6_2 < ((rd_L5 x4_3 x5_1).length : Int)) = true := decide_eq_true c49
                                clear c49
                                by_cases c50 : (rd (rd_L5 x4_3 x5_1) x6_2) < 0
                                ·rw [if_pos c50] at H
                                 have c50b0 : decide ((rd (rd_L5 x4_3 x5_1) x6_2) < 0) = true := decide_eq_true c50
                                 clear c50
                                 obtain ⟨y203, hy203⟩ : ∃ y_ : List Int, y_ = ((rd_L5 x4_3 x5_1).set (x6_2 : Int).toNat (rd (rd_L5 x4_3 (ji39)) x7_3)) := ⟨_, rfl⟩
                                 replace H : (spec_l2Fewest.l2 k3 l0 (l0.length : Int) (x4_3.set (x5_1 : Int).toNat y203) x5_1 x6_2 (wrap64 (x7_3 + 1))) = some r := by first | (rw [hy203]; with_reducible exact H) | (have H2_ := (Option.bind_some _ _).symm.trans H; rw [hy203]; with_reducible exact H2_) | (have H2_ := (Option.bind_some _ _).symm.trans H; with_reducible exact H2_) | with_reducible exact H | (rw [hy203]; exact H) | exact H
                                 have Ny203 := am hy203
                                 clear hy203
                                 obtain ⟨y205, hy205⟩ : ∃ y_ : List (List Int), y_ = (x4_3.set (x5_1 : Int).toNat y203) := ⟨_, rfl⟩
                                 replace H : (spec_l2Fewest.l2 k3 l0 (l0.length : Int) y205 x5_1 x6_2 (wrap64 (x7_3 + 1))) = some r := by first | (rw [hy205]; with_reducible exact H) | (have H2_ := (Option.bind_some _ _).symm.trans H; rw [hy205]; with_reducible exact H2_) | (have H2_ := (Option.bind_some _ _).symm.trans H; with_reducible exact H2_) | with_reducible exact H | (rw [hy205]; exact H) | exact H
                                 have Ny205 := am hy205
                                 clear hy205
                                 have H' := am H
                                 clear H
                                 have p198 : 0 ≤ ((ji39) : Int) := od
                                 have q198 : (ji39) < (x4_3.length : Int) := od
                                 obtain ⟨ad198, A198_0, c198_0, e198, hx198_0, hl198_0, hi198_0⟩ := at_L5 (Kd.S_reads' HO_4.out).2.2 (ji39) p198 q198
                                 obtain rfl : (⟨go10, 0, none⟩ : Addr) = ad198 := (by injection e198)
                                 obtain ⟨ce198, hce198, hMe198, hcc198⟩ := Kd.S_get HO_4.out [] (ji39) p198 (by first | exact q198 | exact od | (have e_ := (Kd.S_reads' HO_4.out).1; omega))
                                 obtain ⟨ve198_0, rfl, ge198_0⟩ := hMe198
                                 have hv198_0 := hcc198 0 _ rfl
                                 rw [Nat.add_zero, show ((Kd.slice 3 (Kd.int .i64))).sz = 1 from rfl, Nat.mul_one] at hv198_0
                                 replace hv198_0 := Option.some.inj (hv198_0.symm.trans hx198_0)
                                 rw [hv198_0] at ge198_0
                                 have HL198_0 := am (show Kd.R (Kd.int .i64) 3 _ _ _ _ (rd_L5 x4_3 (ji39)) from ge198_0)
                                 clear hv198_0 ge198_0
                                 have HX198_0 := am hx198_0
                                 clear hcc198 hce198
                                 (first | simp only [add_plain] at hx198_0 | simp only [add_at] at hx198_0 | simp only [Addr.add, Nat.zero_add] at hx198_0 | skip)
                                 have HR198_0 := am hi198_0
                                 have HC198_0 := am hl198_0
                                 clear hi198_0 hl198_0
                                 replace p198 := eq_true p198
                                 replace q198 := eq_true q198
                                 have p199 : 0 ≤ (x7_3 : Int) := od
                                 have q199 : x7_3 < ((rd_L5 x4_3 (ji39)).length : Int) := od
                                 obtain ⟨ad199, e199, hx199_0⟩ := Kd.at_int (by repeat (first | (with_reducible exact HR198_0.out) | (with_reducible refine Kd.C_alloc ?_ _) | (with_reducible refine Kd.C_drewN ?_ _) | (with_reducible refine Kd.C_drew ?_) | exact HR198_0.out)) x7_3 p199 q199
                                 cases e199
                                 replace p199 := eq_true p199
                                 replace q199 := eq_true q199
                                 have p200 : 0 ≤ (x5_1 : Int) := od
                                 have q200 : x5_1 < (x4_3.length : Int) := od
                                 obtain ⟨ad200, A200_0, c200_0, e200, hx200_0, hl200_0, hi200_0⟩ := at_L5 (Kd.S_reads' HO_4.out).2.2 x5_1 p200 q200
                                 obtain rfl : (⟨go10, 0, none⟩ : Addr) = ad200 := (by injection e200)
                                 obtain ⟨ce200, hce200, hMe200, hcc200⟩ := Kd.S_get HO_4.out [] x5_1 p200 (by first | exact q200 | exact od | (have e_ := (Kd.S_reads' HO_4.out).1; omega))
                                 obtain ⟨ve200_0, rfl, ge200_0⟩ := hMe200
                                 have hv200_0 := hcc200 0 _ rfl
                                 rw [Nat.add_zero, show ((Kd.slice 3 (Kd.int .i64))).sz = 1 from rfl, Nat.mul_one] at hv200_0
                                 replace hv200_0 := Option.some.inj (hv200_0.symm.trans hx200_0)
                                 rw [hv200_0] at ge200_0
                                 have HL200_0 := am (show Kd.R (Kd.int .i64) 3 _ _ _ _ (rd_L5 x4_3 x5_1) from ge200_0)
                                 clear hv200_0 ge200_0
                                 have HX200_0 := am hx200_0
                                 clear hcc200 hce200
                                 (first | simp only [add_plain] at hx200_0 | simp only [add_at] at hx200_0 | simp only [Addr.add, Nat.zero_add] at hx200_0 | skip)
                                 have HR200_0 := am hi200_0
                                 have HC200_0 := am hl200_0
                                 clear hi200_0 hl200_0
                                 replace p200 := eq_true p200
                                 replace q200 := eq_true q200
                                 have p201 : 0 ≤ (x6_2 : Int) := od
                                 have q201 : x6_2 < ((rd_L5 x4_3 x5_1).length : Int) := od
                                 obtain ⟨ad201, e201, hx201_0⟩ := Kd.at_int (by repeat (first | (with_reducible exact HR200_0.out) | (with_reducible refine Kd.C_alloc ?_ _) | (with_reducible refine Kd.C_drewN ?_ _) | (with_reducible refine Kd.C_drew ?_) | exact HR200_0.out)) x6_2 p201 q201
                                 cases e201
                                 replace p201 := eq_true p201
                                 replace q201 := eq_true q201
                                 have p202 : 0 ≤ (x5_1 : Int) := od
                                 have q202 : x5_1 < (x4_3.length : Int) := od
                                 obtain ⟨ad202, A202_0, c202_0, e202, hx202_0, hl202_0, hi202_0⟩ := at_L5 (Kd.S_reads' HO_4.out).2.2 x5_1 p202 q202
                                 obtain rfl : (⟨go10, 0, none⟩ : Addr) = ad202 := (by injection e202)
                                 obtain ⟨ce202, hce202, hMe202, hcc202⟩ := Kd.S_get HO_4.out [] x5_1 p202 (by first | exact q202 | exact od | (have e_ := (Kd.S_reads' HO_4.out).1; omega))
                                 obtain ⟨ve202_0, rfl, ge202_0⟩ := hMe202
                                 have hv202_0 := hcc202 0 _ rfl
                                 rw [Nat.add_zero, show ((Kd.slice 3 (Kd.int .i64))).sz = 1 from rfl, Nat.mul_one] at hv202_0
                                 replace hv202_0 := Option.some.inj (hv202_0.symm.trans hx202_0)
                                 rw [hv202_0] at ge202_0
                                 have HL202_0 := am (show Kd.R (Kd.int .i64) 3 _ _ _ _ (rd_L5 x4_3 x5_1) from ge202_0)
                                 clear hv202_0 ge202_0
                                 have HX202_0 := am hx202_0
                                 clear hcc202 hce202
                                 (first | simp only [add_plain] at hx202_0 | simp only [add_at] at hx202_0 | simp only [Addr.add, Nat.zero_add] at hx202_0 | skip)
                                 have HR202_0 := am hi202_0
                                 have HC202_0 := am hl202_0
                                 clear hi202_0 hl202_0
                                 replace p202 := eq_true p202
                                 replace q202 := eq_true q202
                                 have ea_ := Option.some.inj (hx200_0.symm.trans hx202_0)
                                 injection ea_ with ea_ en_ ec_
                                 subst ea_
                                 subst ec_
                                 clear en_
                                 have p51 : 0 ≤ (x6_2 : Int) := od
                                 have q51 : (x6_2 : Int) < (((rd_L5 x4_3 x5_1).length : Int) : Int) := od
                                 obtain ⟨go51, co51, eo51, gb51, gl51, cl51, HG51⟩ := Kd.R_form HL202_0.out (by omega)
                                 (first | cases eo51 | (injection eo51 with ea_ en_ ec_; (first | subst ea_ | (injection ea_ with ea_; subst ea_)); subst ec_; clear en_))
                                 have GB51 := am gb51
                                 have GG51 := am HG51
                                 clear gb51 gl51 HG51
                                 (first | simp only [add_plain] at hx201_0 | skip)
                                 obtain ⟨hx51_0, hf51_0⟩ := Kd.R_celln 0 HL202_0.out (x6_2 : Int) p51 q51
                                 replace p51 := eq_true p51
                                 replace q51 := eq_true q51
                                 have hq52 : (x5_1 : Int) < (x4_3.length : Int) := (by have h_ : (x5_1 : Int) < ((x4_3.length : Int) : Int) := od; first | exact h_ | (have e_ := (Kd.S_reads' HO_4.out).1; omega) | simpa only [List.length_set, List.length_set] using h_)
                                 obtain ⟨oki52, ce52, hcl52, hM52, hcc52, hok52, hbk52⟩ := Kd.S_borrow HO_4.out [] (x5_1 : Int) (od) hq52
                                 obtain ⟨ve52_0, rfl, ge52_0⟩ := hM52
                                 have hv52 := hcc52 0 _ rfl
                                 rw [Nat.add_zero, show ((Kd.slice 3 (Kd.int .i64))).sz = 1 from rfl, Nat.mul_one] at hv52
                                 replace hv52 := Option.some.inj (hv52.symm.trans HX202_0.out)
                                 subst hv52
                                 clear hcc52 hcl52
                                 replace ge52_0 := (show Kd.R (Kd.int .i64) 3 _ _ _ _ (rd_L5 x4_3 x5_1) from ge52_0)
                                 have HP52 := Kd.R_putg ge52_0 (x6_2 : Int) (rd (rd_L5 x4_3 (ji39)) x7_3)
                                 go_wp2_with (first | ((with_reducible refine gate_store (t := 3) (p := 94) rfl ?_); refine store_event (t := 3) (p := 94) (v := ?vo_w53) (w1 := (wr.setCell ⟨go51, (x6_2 : Int).toNat, none⟩ (.int .i64 (rd (rd_L5 x4_3 (ji39)) x7_3)))) ?hg ?ho ?hn ?hr ?_; (case ho => rfl); (case hg => rfl); (case hn => rfl); (case hr => first | (go_simp; done) | (go_simp; rfl)); intro w53 hw; have hg : wr.grownBy w53 (some go51) := (by rw [hw]; exact HP52.2); have hz_ : Kd.R (Kd.int .i64) 3 w53 w.heap.size oki52 (.slice (some ⟨go51, 0, none⟩) (rd_L5 x4_3 x5_1).length c200_0) y203 := (by rw [hw, Ny203.out]; exact HP52.1); have hp_ : Kd.S (Kd.slice 3 (Kd.int .i64)) 26 w53 w.heap.size (fun _ => True) (.slice (some ⟨go10, 0, none⟩) x4_3.length co10) y205 := (by rw [Ny205.out]; exact hbk52 hg (fun k_ e_ => by injection e_ with e_; subst e_; exact ge52_0.1 _ rfl) (Kd.M_row hz_)); have hm_ := Kd.R_mono hz_ hok52; clear HP52 hbk52; have n0_ := am (hp_); have n1_ := am ((by rw [hw]; exact below_set (HB.out) GB51.out : Below w.heap.size w w53)); have n2_ := am (hm_); have n3_ := am ((Kd.R_reads' hm_).2.1); clear HO_4; clear HB; clear HL198_0; clear HL200_0; clear HL202_0; have HO_4 := n0_; have HB := n1_; have HL228 := n2_; have HC204 := n3_; clear n0_ n1_ n2_ n3_; clear hg hw hp_ hz_ hm_ hok52))
                                 (try simp only [← hl4_3])
                                 go_roundg k3
                                 case measure => have := HK1.out; have := HK2.out; have := HK3.out; omega
                                 case rel => exact ⟨(y205), (wrap64 (x7_3 + 1)), (by first | rfl | (simp; done) | (simp [*]; done)), H', ⟨by have := HK1.out; have := HK2.out; have := HK3.out; omega⟩, ⟨by (try simp only [hl4_2]); (try simp only [hl4_3]); (with_reducible repeat (first | apply Kd.S_alloc | apply Kd.S_drewN | apply Kd.S_drew)); exact HO_4.out⟩, ⟨bu HB.out⟩⟩
                                ·rw [if_neg c50] at H
                                 have c50b0 : decide ((rd (rd_L5 x4_3 x5_1) x6_2) < 0) = false := decide_eq_false c50
                                 clear c50
                                 by_cases c54 : (rd (rd_L5 x4_3 (ji39)) x7_3) < (rd (rd_L5 x4_3 x5_1) x6_2)
                                 ·rw [if_pos c54] at H
                                  have c54b0 : decide ((rd (rd_L5 x4_3 (ji39)) x7_3) < (rd (rd_L5 x4_3 x5_1) x6_2)) = true := decide_eq_true c54
                                  clear c54
                                  obtain ⟨y209, hy209⟩ : ∃ y_ : List Int, y_ = ((rd_L5 x4_3 x5_1).set (x6_2 : Int).toNat (rd (rd_L5 x4_3 (ji39)) x7_3)) := ⟨_, rfl⟩
                                  replace H : (spec_l2Fewest.l2 k3 l0 (l0.length : Int) (x4_3.set (x5_1 : Int).toNat y209) x5_1 x6_2 (wrap64 (x7_3 + 1))) = some r := by first | (rw [hy209]; with_reducible exact H) | (have H2_ := (Option.bind_some _ _).symm.trans H; rw [hy209]; with_reducible exact H2_) | (have H2_ := (Option.bind_some _ _).symm.trans H; with_reducible exact H2_) | with_reducible exact H | (rw [hy209]; exact H) | exact H
                                  have Ny209 := am hy209
                                  clear hy209
                                  obtain ⟨y211, hy211⟩ : ∃ y_ : List (List Int), y_ = (x4_3.set (x5_1 : Int).toNat y209) := ⟨_, rfl⟩
                                  replace H : (spec_l2Fewest.l2 k3 l0 (l0.length : Int) y211 x5_1 x6_2 (wrap64 (x7_3 + 1))) = some r := by first | (rw [hy211]; with_reducible exact H) | (have H2_ := (Option.bind_some _ _).symm.trans H; rw [hy211]; with_reducible exact H2_) | (have H2_ := (Option.bind_some _ _).symm.trans H; with_reducible exact H2_) | with_reducible exact H | (rw [hy211]; exact H) | exact H
                                  have Ny211 := am hy211
                                  clear hy211
                                  have H' := am H
                                  clear H
                                  have p198 : 0 ≤ ((ji39) : Int) := od
                                  have q198 : (ji39) < (x4_3.length : Int) := od
                                  obtain ⟨ad198, A198_0, c198_0, e198, hx198_0, hl198_0, hi198_0⟩ := at_L5 (Kd.S_reads' HO_4.out).2.2 (ji39) p198 q198
                                  obtain rfl : (⟨go10, 0, none⟩ : Addr) = ad198 := (by injection e198)
                                  obtain ⟨ce198, hce198, hMe198, hcc198⟩ := Kd.S_get HO_4.out [] (ji39) p198 (by first | exact q198 | exact od | (have e_ := (Kd.S_reads' HO_4.out).1; omega))
                                  obtain ⟨ve198_0, rfl, ge198_0⟩ := hMe198
                                  have hv198_0 := hcc198 0 _ rfl
                                  rw [Nat.add_zero, show ((Kd.slice 3 (Kd.int .i64))).sz = 1 from rfl, Nat.mul_one] at hv198_0
                                  replace hv198_0 := Option.some.inj (hv198_0.symm.trans hx198_0)
                                  rw [hv198_0] at ge198_0
                                  have HL198_0 := am (show Kd.R (Kd.int .i64) 3 _ _ _ _ (rd_L5 x4_3 (ji39)) from ge198_0)
                                  clear hv198_0 ge198_0
                                  have HX198_0 := am hx198_0
                                  clear hcc198 hce198
                                  (first | simp only [add_plain] at hx198_0 | simp only [add_at] at hx198_0 | simp only [Addr.add, Nat.zero_add] at hx198_0 | skip)
                                  have HR198_0 := am hi198_0
                                  have HC198_0 := am hl198_0
                                  clear hi198_0 hl198_0
                                  replace p198 := eq_true p198
                                  replace q198 := eq_true q198
                                  have p199 : 0 ≤ (x7_3 : Int) := od
                                  have q199 : x7_3 < ((rd_L5 x4_3 (ji39)).length : Int) := od
                                  obtain ⟨ad199, e199, hx199_0⟩ := Kd.at_int (by repeat (first | (with_reducible exact HR198_0.out) | (with_reducible refine Kd.C_alloc ?_ _) | (with_reducible refine Kd.C_drewN ?_ _) | (with_reducible refine Kd.C_drew ?_) | exact HR198_0.out)) x7_3 p199 q199
                                  cases e199
                                  replace p199 := eq_true p199
                                  replace q199 := eq_true q199
                                  have p200 : 0 ≤ (x5_1 : Int) := od
                                  have q200 : x5_1 < (x4_3.length : Int) := od
                                  obtain ⟨ad200, A200_0, c200_0, e200, hx200_0, hl200_0, hi200_0⟩ := at_L5 (Kd.S_reads' HO_4.out).2.2 x5_1 p200 q200
                                  obtain rfl : (⟨go10, 0, none⟩ : Addr) = ad200 := (by injection e200)
                                  obtain ⟨ce200, hce200, hMe200, hcc200⟩ := Kd.S_get HO_4.out [] x5_1 p200 (by first | exact q200 | exact od | (have e_ := (Kd.S_reads' HO_4.out).1; omega))
                                  obtain ⟨ve200_0, rfl, ge200_0⟩ := hMe200
                                  have hv200_0 := hcc200 0 _ rfl
                                  rw [Nat.add_zero, show ((Kd.slice 3 (Kd.int .i64))).sz = 1 from rfl, Nat.mul_one] at hv200_0
                                  replace hv200_0 := Option.some.inj (hv200_0.symm.trans hx200_0)
                                  rw [hv200_0] at ge200_0
                                  have HL200_0 := am (show Kd.R (Kd.int .i64) 3 _ _ _ _ (rd_L5 x4_3 x5_1) from ge200_0)
                                  clear hv200_0 ge200_0
                                  have HX200_0 := am hx200_0
                                  clear hcc200 hce200
                                  (first | simp only [add_plain] at hx200_0 | simp only [add_at] at hx200_0 | simp only [Addr.add, Nat.zero_add] at hx200_0 | skip)
                                  have HR200_0 := am hi200_0
                                  have HC200_0 := am hl200_0
                                  clear hi200_0 hl200_0
                                  replace p200 := eq_true p200
                                  replace q200 := eq_true q200
                                  have p201 : 0 ≤ (x6_2 : Int) := od
                                  have q201 : x6_2 < ((rd_L5 x4_3 x5_1).length : Int) := od
                                  obtain ⟨ad201, e201, hx201_0⟩ := Kd.at_int (by repeat (first | (with_reducible exact HR200_0.out) | (with_reducible refine Kd.C_alloc ?_ _) | (with_reducible refine Kd.C_drewN ?_ _) | (with_reducible refine Kd.C_drew ?_) | exact HR200_0.out)) x6_2 p201 q201
                                  cases e201
                                  replace p201 := eq_true p201
                                  replace q201 := eq_true q201
                                  have p206 : 0 ≤ (x5_1 : Int) := od
                                  have q206 : x5_1 < (x4_3.length : Int) := od
                                  obtain ⟨ad206, A206_0, c206_0, e206, hx206_0, hl206_0, hi206_0⟩ := at_L5 (Kd.S_reads' HO_4.out).2.2 x5_1 p206 q206
                                  obtain rfl : (⟨go10, 0, none⟩ : Addr) = ad206 := (by injection e206)
                                  obtain ⟨ce206, hce206, hMe206, hcc206⟩ := Kd.S_get HO_4.out [] x5_1 p206 (by first | exact q206 | exact od | (have e_ := (Kd.S_reads' HO_4.out).1; omega))
                                  obtain ⟨ve206_0, rfl, ge206_0⟩ := hMe206
                                  have hv206_0 := hcc206 0 _ rfl
                                  rw [Nat.add_zero, show ((Kd.slice 3 (Kd.int .i64))).sz = 1 from rfl, Nat.mul_one] at hv206_0
                                  replace hv206_0 := Option.some.inj (hv206_0.symm.trans hx206_0)
                                  rw [hv206_0] at ge206_0
                                  have HL206_0 := am (show Kd.R (Kd.int .i64) 3 _ _ _ _ (rd_L5 x4_3 x5_1) from ge206_0)
                                  clear hv206_0 ge206_0
                                  have HX206_0 := am hx206_0
                                  clear hcc206 hce206
                                  (first | simp only [add_plain] at hx206_0 | simp only [add_at] at hx206_0 | simp only [Addr.add, Nat.zero_add] at hx206_0 | skip)
                                  have HR206_0 := am hi206_0
                                  have HC206_0 := am hl206_0
                                  clear hi206_0 hl206_0
                                  replace p206 := eq_true p206
                                  replace q206 := eq_true q206
                                  have ea_ := Option.some.inj (hx200_0.symm.trans hx206_0)
                                  injection ea_ with ea_ en_ ec_
                                  subst ea_
                                  subst ec_
                                  clear en_
                                  have p207 : 0 ≤ (x6_2 : Int) := od
                                  have q207 : x6_2 < ((rd_L5 x4_3 x5_1).length : Int) := od
                                  obtain ⟨ad207, e207, hx207_0⟩ := Kd.at_int (by repeat (first | (with_reducible exact HR206_0.out) | (with_reducible refine Kd.C_alloc ?_ _) | (with_reducible refine Kd.C_drewN ?_ _) | (with_reducible refine Kd.C_drew ?_) | exact HR206_0.out)) x6_2 p207 q207
                                  cases e207
                                  replace p207 := eq_true p207
                                  replace q207 := eq_true q207
                                  have p208 : 0 ≤ (x5_1 : Int) := od
                                  have q208 : x5_1 < (x4_3.length : Int) := od
                                  obtain ⟨ad208, A208_0, c208_0, e208, hx208_0, hl208_0, hi208_0⟩ := at_L5 (Kd.S_reads' HO_4.out).2.2 x5_1 p208 q208
                                  obtain rfl : (⟨go10, 0, none⟩ : Addr) = ad208 := (by injection e208)
                                  obtain ⟨ce208, hce208, hMe208, hcc208⟩ := Kd.S_get HO_4.out [] x5_1 p208 (by first | exact q208 | exact od | (have e_ := (Kd.S_reads' HO_4.out).1; omega))
                                  obtain ⟨ve208_0, rfl, ge208_0⟩ := hMe208
                                  have hv208_0 := hcc208 0 _ rfl
                                  rw [Nat.add_zero, show ((Kd.slice 3 (Kd.int .i64))).sz = 1 from rfl, Nat.mul_one] at hv208_0
                                  replace hv208_0 := Option.some.inj (hv208_0.symm.trans hx208_0)
                                  rw [hv208_0] at ge208_0
                                  have HL208_0 := am (show Kd.R (Kd.int .i64) 3 _ _ _ _ (rd_L5 x4_3 x5_1) from ge208_0)
                                  clear hv208_0 ge208_0
                                  have HX208_0 := am hx208_0
                                  clear hcc208 hce208
                                  (first | simp only [add_plain] at hx208_0 | simp only [add_at] at hx208_0 | simp only [Addr.add, Nat.zero_add] at hx208_0 | skip)
                                  have HR208_0 := am hi208_0
                                  have HC208_0 := am hl208_0
                                  clear hi208_0 hl208_0
                                  replace p208 := eq_true p208
                                  replace q208 := eq_true q208
                                  have ea_ := Option.some.inj (hx200_0.symm.trans hx208_0)
                                  injection ea_ with ea_ en_ ec_
                                  subst ea_
                                  subst ec_
                                  clear en_
                                  have p55 : 0 ≤ (x6_2 : Int) := od
                                  have q55 : (x6_2 : Int) < (((rd_L5 x4_3 x5_1).length : Int) : Int) := od
                                  obtain ⟨go55, co55, eo55, gb55, gl55, cl55, HG55⟩ := Kd.R_form HL208_0.out (by omega)
                                  (first | cases eo55 | (injection eo55 with ea_ en_ ec_; (first | subst ea_ | (injection ea_ with ea_; subst ea_)); subst ec_; clear en_))
                                  have GB55 := am gb55
                                  have GG55 := am HG55
                                  clear gb55 gl55 HG55
                                  (first | simp only [add_plain] at hx207_0 | skip)
                                  obtain ⟨hx55_0, hf55_0⟩ := Kd.R_celln 0 HL208_0.out (x6_2 : Int) p55 q55
                                  replace p55 := eq_true p55
                                  replace q55 := eq_true q55
                                  have hq56 : (x5_1 : Int) < (x4_3.length : Int) := (by have h_ : (x5_1 : Int) < ((x4_3.length : Int) : Int) := od; first | exact h_ | (have e_ := (Kd.S_reads' HO_4.out).1; omega) | simpa only [List.length_set, List.length_set] using h_)
                                  obtain ⟨oki56, ce56, hcl56, hM56, hcc56, hok56, hbk56⟩ := Kd.S_borrow HO_4.out [] (x5_1 : Int) (od) hq56
                                  obtain ⟨ve56_0, rfl, ge56_0⟩ := hM56
                                  have hv56 := hcc56 0 _ rfl
                                  rw [Nat.add_zero, show ((Kd.slice 3 (Kd.int .i64))).sz = 1 from rfl, Nat.mul_one] at hv56
                                  replace hv56 := Option.some.inj (hv56.symm.trans HX208_0.out)
                                  subst hv56
                                  clear hcc56 hcl56
                                  replace ge56_0 := (show Kd.R (Kd.int .i64) 3 _ _ _ _ (rd_L5 x4_3 x5_1) from ge56_0)
                                  have HP56 := Kd.R_putg ge56_0 (x6_2 : Int) (rd (rd_L5 x4_3 (ji39)) x7_3)
                                  go_wp2_with (first | ((with_reducible refine gate_store (t := 3) (p := 94) rfl ?_); refine store_event (t := 3) (p := 94) (v := ?vo_w57) (w1 := (wr.setCell ⟨go55, (x6_2 : Int).toNat, none⟩ (.int .i64 (rd (rd_L5 x4_3 (ji39)) x7_3)))) ?hg ?ho ?hn ?hr ?_; (case ho => rfl); (case hg => rfl); (case hn => rfl); (case hr => first | (go_simp; done) | (go_simp; rfl)); intro w57 hw; have hg : wr.grownBy w57 (some go55) := (by rw [hw]; exact HP56.2); have hz_ : Kd.R (Kd.int .i64) 3 w57 w.heap.size oki56 (.slice (some ⟨go55, 0, none⟩) (rd_L5 x4_3 x5_1).length c200_0) y209 := (by rw [hw, Ny209.out]; exact HP56.1); have hp_ : Kd.S (Kd.slice 3 (Kd.int .i64)) 26 w57 w.heap.size (fun _ => True) (.slice (some ⟨go10, 0, none⟩) x4_3.length co10) y211 := (by rw [Ny211.out]; exact hbk56 hg (fun k_ e_ => by injection e_ with e_; subst e_; exact ge56_0.1 _ rfl) (Kd.M_row hz_)); have hm_ := Kd.R_mono hz_ hok56; clear HP56 hbk56; have n0_ := am (hp_); have n1_ := am ((by rw [hw]; exact below_set (HB.out) GB55.out : Below w.heap.size w w57)); have n2_ := am (hm_); have n3_ := am ((Kd.R_reads' hm_).2.1); clear HO_4; clear HB; clear HL198_0; clear HL200_0; clear HL206_0; clear HL208_0; have HO_4 := n0_; have HB := n1_; have HL229 := n2_; have HC210 := n3_; clear n0_ n1_ n2_ n3_; clear hg hw hp_ hz_ hm_ hok56))
                                  (try simp only [← hl4_3])
                                  go_roundg k3
                                  case measure => have := HK1.out; have := HK2.out; have := HK3.out; omega
                                  case rel => exact ⟨(y211), (wrap64 (x7_3 + 1)), (by first | rfl | (simp; done) | (simp [*]; done)), H', ⟨by have := HK1.out; have := HK2.out; have := HK3.out; omega⟩, ⟨by (try simp only [hl4_2]); (try simp only [hl4_3]); (with_reducible repeat (first | apply Kd.S_alloc | apply Kd.S_drewN | apply Kd.S_drew)); exact HO_4.out⟩, ⟨bu HB.out⟩⟩
                                 ·rw [if_neg c54] at H
                                  have c54b0 : decide ((rd (rd_L5 x4_3 (ji39)) x7_3) < (rd (rd_L5 x4_3 x5_1) x6_2)) = false := decide_eq_false c54
                                  clear c54
                                  have H' := am H
                                  clear H
                                  have p198 : 0 ≤ ((ji39) : Int) := od
                                  have q198 : (ji39) < (x4_3.length : Int) := od
                                  obtain ⟨ad198, A198_0, c198_0, e198, hx198_0, hl198_0, hi198_0⟩ := at_L5 (Kd.S_reads' HO_4.out).2.2 (ji39) p198 q198
                                  obtain rfl : (⟨go10, 0, none⟩ : Addr) = ad198 := (by injection e198)
                                  obtain ⟨ce198, hce198, hMe198, hcc198⟩ := Kd.S_get HO_4.out [] (ji39) p198 (by first | exact q198 | exact od | (have e_ := (Kd.S_reads' HO_4.out).1; omega))
                                  obtain ⟨ve198_0, rfl, ge198_0⟩ := hMe198
                                  have hv198_0 := hcc198 0 _ rfl
                                  rw [Nat.add_zero, show ((Kd.slice 3 (Kd.int .i64))).sz = 1 from rfl, Nat.mul_one] at hv198_0
                                  replace hv198_0 := Option.some.inj (hv198_0.symm.trans hx198_0)
                                  rw [hv198_0] at ge198_0
                                  have HL198_0 := am (show Kd.R (Kd.int .i64) 3 _ _ _ _ (rd_L5 x4_3 (ji39)) from ge198_0)
                                  clear hv198_0 ge198_0
                                  have HX198_0 := am hx198_0
                                  clear hcc198 hce198
                                  (first | simp only [add_plain] at hx198_0 | simp only [add_at] at hx198_0 | simp only [Addr.add, Nat.zero_add] at hx198_0 | skip)
                                  have HR198_0 := am hi198_0
                                  have HC198_0 := am hl198_0
                                  clear hi198_0 hl198_0
                                  replace p198 := eq_true p198
                                  replace q198 := eq_true q198
                                  have p199 : 0 ≤ (x7_3 : Int) := od
                                  have q199 : x7_3 < ((rd_L5 x4_3 (ji39)).length : Int) := od
                                  obtain ⟨ad199, e199, hx199_0⟩ := Kd.at_int (by repeat (first | (with_reducible exact HR198_0.out) | (with_reducible refine Kd.C_alloc ?_ _) | (with_reducible refine Kd.C_drewN ?_ _) | (with_reducible refine Kd.C_drew ?_) | exact HR198_0.out)) x7_3 p199 q199
                                  cases e199
                                  replace p199 := eq_true p199
                                  replace q199 := eq_true q199
                                  have p200 : 0 ≤ (x5_1 : Int) := od
                                  have q200 : x5_1 < (x4_3.length : Int) := od
                                  obtain ⟨ad200, A200_0, c200_0, e200, hx200_0, hl200_0, hi200_0⟩ := at_L5 (Kd.S_reads' HO_4.out).2.2 x5_1 p200 q200
                                  obtain rfl : (⟨go10, 0, none⟩ : Addr) = ad200 := (by injection e200)
                                  obtain ⟨ce200, hce200, hMe200, hcc200⟩ := Kd.S_get HO_4.out [] x5_1 p200 (by first | exact q200 | exact od | (have e_ := (Kd.S_reads' HO_4.out).1; omega))
                                  obtain ⟨ve200_0, rfl, ge200_0⟩ := hMe200
                                  have hv200_0 := hcc200 0 _ rfl
                                  rw [Nat.add_zero, show ((Kd.slice 3 (Kd.int .i64))).sz = 1 from rfl, Nat.mul_one] at hv200_0
                                  replace hv200_0 := Option.some.inj (hv200_0.symm.trans hx200_0)
                                  rw [hv200_0] at ge200_0
                                  have HL200_0 := am (show Kd.R (Kd.int .i64) 3 _ _ _ _ (rd_L5 x4_3 x5_1) from ge200_0)
                                  clear hv200_0 ge200_0
                                  have HX200_0 := am hx200_0
                                  clear hcc200 hce200
                                  (first | simp only [add_plain] at hx200_0 | simp only [add_at] at hx200_0 | simp only [Addr.add, Nat.zero_add] at hx200_0 | skip)
                                  have HR200_0 := am hi200_0
                                  have HC200_0 := am hl200_0
                                  clear hi200_0 hl200_0
                                  replace p200 := eq_true p200
                                  replace q200 := eq_true q200
                                  have p201 : 0 ≤ (x6_2 : Int) := od
                                  have q201 : x6_2 < ((rd_L5 x4_3 x5_1).length : Int) := od
                                  obtain ⟨ad201, e201, hx201_0⟩ := Kd.at_int (by repeat (first | (with_reducible exact HR200_0.out) | (with_reducible refine Kd.C_alloc ?_ _) | (with_reducible refine Kd.C_drewN ?_ _) | (with_reducible refine Kd.C_drew ?_) | exact HR200_0.out)) x6_2 p201 q201
                                  cases e201
                                  replace p201 := eq_true p201
                                  replace q201 := eq_true q201
                                  have p206 : 0 ≤ (x5_1 : Int) := od
                                  have q206 : x5_1 < (x4_3.length : Int) := od
                                  obtain ⟨ad206, A206_0, c206_0, e206, hx206_0, hl206_0, hi206_0⟩ := at_L5 (Kd.S_reads' HO_4.out).2.2 x5_1 p206 q206
                                  obtain rfl : (⟨go10, 0, none⟩ : Addr) = ad206 := (by injection e206)
                                  obtain ⟨ce206, hce206, hMe206, hcc206⟩ := Kd.S_get HO_4.out [] x5_1 p206 (by first | exact q206 | exact od | (have e_ := (Kd.S_reads' HO_4.out).1; omega))
                                  obtain ⟨ve206_0, rfl, ge206_0⟩ := hMe206
                                  have hv206_0 := hcc206 0 _ rfl
                                  rw [Nat.add_zero, show ((Kd.slice 3 (Kd.int .i64))).sz = 1 from rfl, Nat.mul_one] at hv206_0
                                  replace hv206_0 := Option.some.inj (hv206_0.symm.trans hx206_0)
                                  rw [hv206_0] at ge206_0
                                  have HL206_0 := am (show Kd.R (Kd.int .i64) 3 _ _ _ _ (rd_L5 x4_3 x5_1) from ge206_0)
                                  clear hv206_0 ge206_0
                                  have HX206_0 := am hx206_0
                                  clear hcc206 hce206
                                  (first | simp only [add_plain] at hx206_0 | simp only [add_at] at hx206_0 | simp only [Addr.add, Nat.zero_add] at hx206_0 | skip)
                                  have HR206_0 := am hi206_0
                                  have HC206_0 := am hl206_0
                                  clear hi206_0 hl206_0
                                  replace p206 := eq_true p206
                                  replace q206 := eq_true q206
                                  have ea_ := Option.some.inj (hx200_0.symm.trans hx206_0)
                                  injection ea_ with ea_ en_ ec_
                                  subst ea_
                                  subst ec_
                                  clear en_
                                  have p207 : 0 ≤ (x6_2 : Int) := od
                                  have q207 : x6_2 < ((rd_L5 x4_3 x5_1).length : Int) := od
                                  obtain ⟨ad207, e207, hx207_0⟩ := Kd.at_int (by repeat (first | (with_reducible exact HR206_0.out) | (with_reducible refine Kd.C_alloc ?_ _) | (with_reducible refine Kd.C_drewN ?_ _) | (with_reducible refine Kd.C_drew ?_) | exact HR206_0.out)) x6_2 p207 q207
                                  cases e207
                                  replace p207 := eq_true p207
                                  replace q207 := eq_true q207
                                  go_wp2
                                  (try simp only [← hl4_3])
                                  go_roundg k3
                                  case measure => have := HK1.out; have := HK2.out; have := HK3.out; omega
                                  case rel => exact ⟨(x4_3), (wrap64 (x7_3 + 1)), (by first | rfl | (simp; done) | (simp [*]; done)), H', ⟨by have := HK1.out; have := HK2.out; have := HK3.out; omega⟩, ⟨by (try simp only [hl4_2]); (try simp only [hl4_3]); (with_reducible repeat (first | apply Kd.S_alloc | apply Kd.S_drewN | apply Kd.S_drew)); exact HO_4.out⟩, ⟨bu HB.out⟩⟩
                               ·rw [if_neg c49] at H
                                exact absurd H (by simp)
                              ·rw [if_neg c48] at H
                               exact absurd H (by simp)
                             ·rw [if_neg c47] at H
                              exact absurd H (by simp)
                            ·rw [if_neg c46] at H
                             exact absurd H (by simp)
                           ·rw [if_neg c45] at H
                            have c45b0 : (x7_3 == x6_2) = false := beq_eq_false_iff_ne.mpr c45
                            have c45b1 : (x7_3 != x6_2) = true := bne_iff_ne.mpr c45
                            by_cases c58 : 0 ≤ x5_1
                            ·rw [if_pos c58] at H
                             have c58b0 : decide (0 ≤ x5_1) = true := decide_eq_true c58
                             clear c58
                             by_cases c59 : x5_1 < (x4_3.length : Int)
                             ·rw [if_pos c59] at H
                              have c59b0 : decide (x5_1 < (x4_3.length : Int)) = true := decide_eq_true c59
                              clear c59
                              by_cases c60 : 0 ≤ x6_2
                              ·rw [if_pos c60] at H
                               have c60b0 : decide (0 ≤ x6_2) = true := decide_eq_true c60
                               clear c60
                               by_cases c61 : x6_2 < ((rd_L5 x4_3 x5_1).length : Int)
                               ·rw [if_pos c61] at H
                                have c61b0 : decide (x6_2 < ((rd_L5 x4_3 x5_1).length : Int)) = true := decide_eq_true c61
                                clear c61
                                by_cases c62 : (rd (rd_L5 x4_3 x5_1) x6_2) < 0
                                ·rw [if_pos c62] at H
                                 have c62b0 : decide ((rd (rd_L5 x4_3 x5_1) x6_2) < 0) = true := decide_eq_true c62
                                 clear c62
                                 obtain ⟨y215, hy215⟩ : ∃ y_ : List Int, y_ = ((rd_L5 x4_3 x5_1).set (x6_2 : Int).toNat (wrap64 ((rd (rd_L5 x4_3 (ji39)) x7_3) + 1))) := ⟨_, rfl⟩
                                 replace H : (spec_l2Fewest.l2 k3 l0 (l0.length : Int) (x4_3.set (x5_1 : Int).toNat y215) x5_1 x6_2 (wrap64 (x7_3 + 1))) = some r := by first | (rw [hy215]; with_reducible exact H) | (have H2_ := (Option.bind_some _ _).symm.trans H; rw [hy215]; with_reducible exact H2_) | (have H2_ := (Option.bind_some _ _).symm.trans H; with_reducible exact H2_) | with_reducible exact H | (rw [hy215]; exact H) | exact H
                                 have Ny215 := am hy215
                                 clear hy215
                                 obtain ⟨y217, hy217⟩ : ∃ y_ : List (List Int), y_ = (x4_3.set (x5_1 : Int).toNat y215) := ⟨_, rfl⟩
                                 replace H : (spec_l2Fewest.l2 k3 l0 (l0.length : Int) y217 x5_1 x6_2 (wrap64 (x7_3 + 1))) = some r := by first | (rw [hy217]; with_reducible exact H) | (have H2_ := (Option.bind_some _ _).symm.trans H; rw [hy217]; with_reducible exact H2_) | (have H2_ := (Option.bind_some _ _).symm.trans H; with_reducible exact H2_) | with_reducible exact H | (rw [hy217]; exact H) | exact H
                                 have Ny217 := am hy217
                                 clear hy217
                                 have H' := am H
                                 clear H
                                 have p198 : 0 ≤ ((ji39) : Int) := od
                                 have q198 : (ji39) < (x4_3.length : Int) := od
                                 obtain ⟨ad198, A198_0, c198_0, e198, hx198_0, hl198_0, hi198_0⟩ := at_L5 (Kd.S_reads' HO_4.out).2.2 (ji39) p198 q198
                                 obtain rfl : (⟨go10, 0, none⟩ : Addr) = ad198 := (by injection e198)
                                 obtain ⟨ce198, hce198, hMe198, hcc198⟩ := Kd.S_get HO_4.out [] (ji39) p198 (by first | exact q198 | exact od | (have e_ := (Kd.S_reads' HO_4.out).1; omega))
                                 obtain ⟨ve198_0, rfl, ge198_0⟩ := hMe198
                                 have hv198_0 := hcc198 0 _ rfl
                                 rw [Nat.add_zero, show ((Kd.slice 3 (Kd.int .i64))).sz = 1 from rfl, Nat.mul_one] at hv198_0
                                 replace hv198_0 := Option.some.inj (hv198_0.symm.trans hx198_0)
                                 rw [hv198_0] at ge198_0
                                 have HL198_0 := am (show Kd.R (Kd.int .i64) 3 _ _ _ _ (rd_L5 x4_3 (ji39)) from ge198_0)
                                 clear hv198_0 ge198_0
                                 have HX198_0 := am hx198_0
                                 clear hcc198 hce198
                                 (first | simp only [add_plain] at hx198_0 | simp only [add_at] at hx198_0 | simp only [Addr.add, Nat.zero_add] at hx198_0 | skip)
                                 have HR198_0 := am hi198_0
                                 have HC198_0 := am hl198_0
                                 clear hi198_0 hl198_0
                                 replace p198 := eq_true p198
                                 replace q198 := eq_true q198
                                 have p199 : 0 ≤ (x7_3 : Int) := od
                                 have q199 : x7_3 < ((rd_L5 x4_3 (ji39)).length : Int) := od
                                 obtain ⟨ad199, e199, hx199_0⟩ := Kd.at_int (by repeat (first | (with_reducible exact HR198_0.out) | (with_reducible refine Kd.C_alloc ?_ _) | (with_reducible refine Kd.C_drewN ?_ _) | (with_reducible refine Kd.C_drew ?_) | exact HR198_0.out)) x7_3 p199 q199
                                 cases e199
                                 replace p199 := eq_true p199
                                 replace q199 := eq_true q199
                                 have p212 : 0 ≤ (x5_1 : Int) := od
                                 have q212 : x5_1 < (x4_3.length : Int) := od
                                 obtain ⟨ad212, A212_0, c212_0, e212, hx212_0, hl212_0, hi212_0⟩ := at_L5 (Kd.S_reads' HO_4.out).2.2 x5_1 p212 q212
                                 obtain rfl : (⟨go10, 0, none⟩ : Addr) = ad212 := (by injection e212)
                                 obtain ⟨ce212, hce212, hMe212, hcc212⟩ := Kd.S_get HO_4.out [] x5_1 p212 (by first | exact q212 | exact od | (have e_ := (Kd.S_reads' HO_4.out).1; omega))
                                 obtain ⟨ve212_0, rfl, ge212_0⟩ := hMe212
                                 have hv212_0 := hcc212 0 _ rfl
                                 rw [Nat.add_zero, show ((Kd.slice 3 (Kd.int .i64))).sz = 1 from rfl, Nat.mul_one] at hv212_0
                                 replace hv212_0 := Option.some.inj (hv212_0.symm.trans hx212_0)
                                 rw [hv212_0] at ge212_0
                                 have HL212_0 := am (show Kd.R (Kd.int .i64) 3 _ _ _ _ (rd_L5 x4_3 x5_1) from ge212_0)
                                 clear hv212_0 ge212_0
                                 have HX212_0 := am hx212_0
                                 clear hcc212 hce212
                                 (first | simp only [add_plain] at hx212_0 | simp only [add_at] at hx212_0 | simp only [Addr.add, Nat.zero_add] at hx212_0 | skip)
                                 have HR212_0 := am hi212_0
                                 have HC212_0 := am hl212_0
                                 clear hi212_0 hl212_0
                                 replace p212 := eq_true p212
                                 replace q212 := eq_true q212
                                 have p213 : 0 ≤ (x6_2 : Int) := od
                                 have q213 : x6_2 < ((rd_L5 x4_3 x5_1).length : Int) := od
                                 obtain ⟨ad213, e213, hx213_0⟩ := Kd.at_int (by repeat (first | (with_reducible exact HR212_0.out) | (with_reducible refine Kd.C_alloc ?_ _) | (with_reducible refine Kd.C_drewN ?_ _) | (with_reducible refine Kd.C_drew ?_) | exact HR212_0.out)) x6_2 p213 q213
                                 cases e213
                                 replace p213 := eq_true p213
                                 replace q213 := eq_true q213
                                 have p214 : 0 ≤ (x5_1 : Int) := od
                                 have q214 : x5_1 < (x4_3.length : Int) := od
                                 obtain ⟨ad214, A214_0, c214_0, e214, hx214_0, hl214_0, hi214_0⟩ := at_L5 (Kd.S_reads' HO_4.out).2.2 x5_1 p214 q214
                                 obtain rfl : (⟨go10, 0, none⟩ : Addr) = ad214 := (by injection e214)
                                 obtain ⟨ce214, hce214, hMe214, hcc214⟩ := Kd.S_get HO_4.out [] x5_1 p214 (by first | exact q214 | exact od | (have e_ := (Kd.S_reads' HO_4.out).1; omega))
                                 obtain ⟨ve214_0, rfl, ge214_0⟩ := hMe214
                                 have hv214_0 := hcc214 0 _ rfl
                                 rw [Nat.add_zero, show ((Kd.slice 3 (Kd.int .i64))).sz = 1 from rfl, Nat.mul_one] at hv214_0
                                 replace hv214_0 := Option.some.inj (hv214_0.symm.trans hx214_0)
                                 rw [hv214_0] at ge214_0
                                 have HL214_0 := am (show Kd.R (Kd.int .i64) 3 _ _ _ _ (rd_L5 x4_3 x5_1) from ge214_0)
                                 clear hv214_0 ge214_0
                                 have HX214_0 := am hx214_0
                                 clear hcc214 hce214
                                 (first | simp only [add_plain] at hx214_0 | simp only [add_at] at hx214_0 | simp only [Addr.add, Nat.zero_add] at hx214_0 | skip)
                                 have HR214_0 := am hi214_0
                                 have HC214_0 := am hl214_0
                                 clear hi214_0 hl214_0
                                 replace p214 := eq_true p214
                                 replace q214 := eq_true q214
                                 have ea_ := Option.some.inj (hx212_0.symm.trans hx214_0)
                                 injection ea_ with ea_ en_ ec_
                                 subst ea_
                                 subst ec_
                                 clear en_
                                 have p63 : 0 ≤ (x6_2 : Int) := od
                                 have q63 : (x6_2 : Int) < (((rd_L5 x4_3 x5_1).length : Int) : Int) := od
                                 obtain ⟨go63, co63, eo63, gb63, gl63, cl63, HG63⟩ := Kd.R_form HL214_0.out (by omega)
                                 (first | cases eo63 | (injection eo63 with ea_ en_ ec_; (first | subst ea_ | (injection ea_ with ea_; subst ea_)); subst ec_; clear en_))
                                 have GB63 := am gb63
                                 have GG63 := am HG63
                                 clear gb63 gl63 HG63
                                 (first | simp only [add_plain] at hx213_0 | skip)
                                 obtain ⟨hx63_0, hf63_0⟩ := Kd.R_celln 0 HL214_0.out (x6_2 : Int) p63 q63
                                 replace p63 := eq_true p63
                                 replace q63 := eq_true q63
                                 have hq64 : (x5_1 : Int) < (x4_3.length : Int) := (by have h_ : (x5_1 : Int) < ((x4_3.length : Int) : Int) := od; first | exact h_ | (have e_ := (Kd.S_reads' HO_4.out).1; omega) | simpa only [List.length_set, List.length_set] using h_)
                                 obtain ⟨oki64, ce64, hcl64, hM64, hcc64, hok64, hbk64⟩ := Kd.S_borrow HO_4.out [] (x5_1 : Int) (od) hq64
                                 obtain ⟨ve64_0, rfl, ge64_0⟩ := hM64
                                 have hv64 := hcc64 0 _ rfl
                                 rw [Nat.add_zero, show ((Kd.slice 3 (Kd.int .i64))).sz = 1 from rfl, Nat.mul_one] at hv64
                                 replace hv64 := Option.some.inj (hv64.symm.trans HX214_0.out)
                                 subst hv64
                                 clear hcc64 hcl64
                                 replace ge64_0 := (show Kd.R (Kd.int .i64) 3 _ _ _ _ (rd_L5 x4_3 x5_1) from ge64_0)
                                 have HP64 := Kd.R_putg ge64_0 (x6_2 : Int) (wrap64 ((rd (rd_L5 x4_3 (ji39)) x7_3) + 1))
                                 go_wp2_with (first | ((with_reducible refine gate_store (t := 3) (p := 94) rfl ?_); refine store_event (t := 3) (p := 94) (v := ?vo_w65) (w1 := (wr.setCell ⟨go63, (x6_2 : Int).toNat, none⟩ (.int .i64 (wrap64 ((rd (rd_L5 x4_3 (ji39)) x7_3) + 1))))) ?hg ?ho ?hn ?hr ?_; (case ho => rfl); (case hg => rfl); (case hn => rfl); (case hr => first | (go_simp; done) | (go_simp; rfl)); intro w65 hw; have hg : wr.grownBy w65 (some go63) := (by rw [hw]; exact HP64.2); have hz_ : Kd.R (Kd.int .i64) 3 w65 w.heap.size oki64 (.slice (some ⟨go63, 0, none⟩) (rd_L5 x4_3 x5_1).length c212_0) y215 := (by rw [hw, Ny215.out]; exact HP64.1); have hp_ : Kd.S (Kd.slice 3 (Kd.int .i64)) 26 w65 w.heap.size (fun _ => True) (.slice (some ⟨go10, 0, none⟩) x4_3.length co10) y217 := (by rw [Ny217.out]; exact hbk64 hg (fun k_ e_ => by injection e_ with e_; subst e_; exact ge64_0.1 _ rfl) (Kd.M_row hz_)); have hm_ := Kd.R_mono hz_ hok64; clear HP64 hbk64; have n0_ := am (hp_); have n1_ := am ((by rw [hw]; exact below_set (HB.out) GB63.out : Below w.heap.size w w65)); have n2_ := am (hm_); have n3_ := am ((Kd.R_reads' hm_).2.1); clear HO_4; clear HB; clear HL198_0; clear HL212_0; clear HL214_0; have HO_4 := n0_; have HB := n1_; have HL230 := n2_; have HC216 := n3_; clear n0_ n1_ n2_ n3_; clear hg hw hp_ hz_ hm_ hok64))
                                 (try simp only [← hl4_3])
                                 go_roundg k3
                                 case measure => have := HK1.out; have := HK2.out; have := HK3.out; omega
                                 case rel => exact ⟨(y217), (wrap64 (x7_3 + 1)), (by first | rfl | (simp; done) | (simp [*]; done)), H', ⟨by have := HK1.out; have := HK2.out; have := HK3.out; omega⟩, ⟨by (try simp only [hl4_2]); (try simp only [hl4_3]); (with_reducible repeat (first | apply Kd.S_alloc | apply Kd.S_drewN | apply Kd.S_drew)); exact HO_4.out⟩, ⟨bu HB.out⟩⟩
                                ·rw [if_neg c62] at H
                                 have c62b0 : decide ((rd (rd_L5 x4_3 x5_1) x6_2) < 0) = false := decide_eq_false c62
                                 clear c62
                                 by_cases c66 : (wrap64 ((rd (rd_L5 x4_3 (ji39)) x7_3) + 1)) < (rd (rd_L5 x4_3 x5_1) x6_2)
                                 ·rw [if_pos c66] at H
                                  have c66b0 : decide ((wrap64 ((rd (rd_L5 x4_3 (ji39)) x7_3) + 1)) < (rd (rd_L5 x4_3 x5_1) x6_2)) = true := decide_eq_true c66
                                  clear c66
                                  obtain ⟨y221, hy221⟩ : ∃ y_ : List Int, y_ = ((rd_L5 x4_3 x5_1).set (x6_2 : Int).toNat (wrap64 ((rd (rd_L5 x4_3 (ji39)) x7_3) + 1))) := ⟨_, rfl⟩
                                  replace H : (spec_l2Fewest.l2 k3 l0 (l0.length : Int) (x4_3.set (x5_1 : Int).toNat y221) x5_1 x6_2 (wrap64 (x7_3 + 1))) = some r := by first | (rw [hy221]; with_reducible exact H) | (have H2_ := (Option.bind_some _ _).symm.trans H; rw [hy221]; with_reducible exact H2_) | (have H2_ := (Option.bind_some _ _).symm.trans H; with_reducible exact H2_) | with_reducible exact H | (rw [hy221]; exact H) | exact H
                                  have Ny221 := am hy221
                                  clear hy221
                                  obtain ⟨y223, hy223⟩ : ∃ y_ : List (List Int), y_ = (x4_3.set (x5_1 : Int).toNat y221) := ⟨_, rfl⟩
                                  replace H : (spec_l2Fewest.l2 k3 l0 (l0.length : Int) y223 x5_1 x6_2 (wrap64 (x7_3 + 1))) = some r := by first | (rw [hy223]; with_reducible exact H) | (have H2_ := (Option.bind_some _ _).symm.trans H; rw [hy223]; with_reducible exact H2_) | (have H2_ := (Option.bind_some _ _).symm.trans H; with_reducible exact H2_) | with_reducible exact H | (rw [hy223]; exact H) | exact H
                                  have Ny223 := am hy223
                                  clear hy223
                                  have H' := am H
                                  clear H
                                  have p198 : 0 ≤ ((ji39) : Int) := od
                                  have q198 : (ji39) < (x4_3.length : Int) := od
                                  obtain ⟨ad198, A198_0, c198_0, e198, hx198_0, hl198_0, hi198_0⟩ := at_L5 (Kd.S_reads' HO_4.out).2.2 (ji39) p198 q198
                                  obtain rfl : (⟨go10, 0, none⟩ : Addr) = ad198 := (by injection e198)
                                  obtain ⟨ce198, hce198, hMe198, hcc198⟩ := Kd.S_get HO_4.out [] (ji39) p198 (by first | exact q198 | exact od | (have e_ := (Kd.S_reads' HO_4.out).1; omega))
                                  obtain ⟨ve198_0, rfl, ge198_0⟩ := hMe198
                                  have hv198_0 := hcc198 0 _ rfl
                                  rw [Nat.add_zero, show ((Kd.slice 3 (Kd.int .i64))).sz = 1 from rfl, Nat.mul_one] at hv198_0
                                  replace hv198_0 := Option.some.inj (hv198_0.symm.trans hx198_0)
                                  rw [hv198_0] at ge198_0
                                  have HL198_0 := am (show Kd.R (Kd.int .i64) 3 _ _ _ _ (rd_L5 x4_3 (ji39)) from ge198_0)
                                  clear hv198_0 ge198_0
                                  have HX198_0 := am hx198_0
                                  clear hcc198 hce198
                                  (first | simp only [add_plain] at hx198_0 | simp only [add_at] at hx198_0 | simp only [Addr.add, Nat.zero_add] at hx198_0 | skip)
                                  have HR198_0 := am hi198_0
                                  have HC198_0 := am hl198_0
                                  clear hi198_0 hl198_0
                                  replace p198 := eq_true p198
                                  replace q198 := eq_true q198
                                  have p199 : 0 ≤ (x7_3 : Int) := od
                                  have q199 : x7_3 < ((rd_L5 x4_3 (ji39)).length : Int) := od
                                  obtain ⟨ad199, e199, hx199_0⟩ := Kd.at_int (by repeat (first | (with_reducible exact HR198_0.out) | (with_reducible refine Kd.C_alloc ?_ _) | (with_reducible refine Kd.C_drewN ?_ _) | (with_reducible refine Kd.C_drew ?_) | exact HR198_0.out)) x7_3 p199 q199
                                  cases e199
                                  replace p199 := eq_true p199
                                  replace q199 := eq_true q199
                                  have p212 : 0 ≤ (x5_1 : Int) := od
                                  have q212 : x5_1 < (x4_3.length : Int) := od
                                  obtain ⟨ad212, A212_0, c212_0, e212, hx212_0, hl212_0, hi212_0⟩ := at_L5 (Kd.S_reads' HO_4.out).2.2 x5_1 p212 q212
                                  obtain rfl : (⟨go10, 0, none⟩ : Addr) = ad212 := (by injection e212)
                                  obtain ⟨ce212, hce212, hMe212, hcc212⟩ := Kd.S_get HO_4.out [] x5_1 p212 (by first | exact q212 | exact od | (have e_ := (Kd.S_reads' HO_4.out).1; omega))
                                  obtain ⟨ve212_0, rfl, ge212_0⟩ := hMe212
                                  have hv212_0 := hcc212 0 _ rfl
                                  rw [Nat.add_zero, show ((Kd.slice 3 (Kd.int .i64))).sz = 1 from rfl, Nat.mul_one] at hv212_0
                                  replace hv212_0 := Option.some.inj (hv212_0.symm.trans hx212_0)
                                  rw [hv212_0] at ge212_0
                                  have HL212_0 := am (show Kd.R (Kd.int .i64) 3 _ _ _ _ (rd_L5 x4_3 x5_1) from ge212_0)
                                  clear hv212_0 ge212_0
                                  have HX212_0 := am hx212_0
                                  clear hcc212 hce212
                                  (first | simp only [add_plain] at hx212_0 | simp only [add_at] at hx212_0 | simp only [Addr.add, Nat.zero_add] at hx212_0 | skip)
                                  have HR212_0 := am hi212_0
                                  have HC212_0 := am hl212_0
                                  clear hi212_0 hl212_0
                                  replace p212 := eq_true p212
                                  replace q212 := eq_true q212
                                  have p213 : 0 ≤ (x6_2 : Int) := od
                                  have q213 : x6_2 < ((rd_L5 x4_3 x5_1).length : Int) := od
                                  obtain ⟨ad213, e213, hx213_0⟩ := Kd.at_int (by repeat (first | (with_reducible exact HR212_0.out) | (with_reducible refine Kd.C_alloc ?_ _) | (with_reducible refine Kd.C_drewN ?_ _) | (with_reducible refine Kd.C_drew ?_) | exact HR212_0.out)) x6_2 p213 q213
                                  cases e213
                                  replace p213 := eq_true p213
                                  replace q213 := eq_true q213
                                  have p218 : 0 ≤ (x5_1 : Int) := od
                                  have q218 : x5_1 < (x4_3.length : Int) := od
                                  obtain ⟨ad218, A218_0, c218_0, e218, hx218_0, hl218_0, hi218_0⟩ := at_L5 (Kd.S_reads' HO_4.out).2.2 x5_1 p218 q218
                                  obtain rfl : (⟨go10, 0, none⟩ : Addr) = ad218 := (by injection e218)
                                  obtain ⟨ce218, hce218, hMe218, hcc218⟩ := Kd.S_get HO_4.out [] x5_1 p218 (by first | exact q218 | exact od | (have e_ := (Kd.S_reads' HO_4.out).1; omega))
                                  obtain ⟨ve218_0, rfl, ge218_0⟩ := hMe218
                                  have hv218_0 := hcc218 0 _ rfl
                                  rw [Nat.add_zero, show ((Kd.slice 3 (Kd.int .i64))).sz = 1 from rfl, Nat.mul_one] at hv218_0
                                  replace hv218_0 := Option.some.inj (hv218_0.symm.trans hx218_0)
                                  rw [hv218_0] at ge218_0
                                  have HL218_0 := am (show Kd.R (Kd.int .i64) 3 _ _ _ _ (rd_L5 x4_3 x5_1) from ge218_0)
                                  clear hv218_0 ge218_0
                                  have HX218_0 := am hx218_0
                                  clear hcc218 hce218
                                  (first | simp only [add_plain] at hx218_0 | simp only [add_at] at hx218_0 | simp only [Addr.add, Nat.zero_add] at hx218_0 | skip)
                                  have HR218_0 := am hi218_0
                                  have HC218_0 := am hl218_0
                                  clear hi218_0 hl218_0
                                  replace p218 := eq_true p218
                                  replace q218 := eq_true q218
                                  have ea_ := Option.some.inj (hx212_0.symm.trans hx218_0)
                                  injection ea_ with ea_ en_ ec_
                                  subst ea_
                                  subst ec_
                                  clear en_
                                  have p219 : 0 ≤ (x6_2 : Int) := od
                                  have q219 : x6_2 < ((rd_L5 x4_3 x5_1).length : Int) := od
                                  obtain ⟨ad219, e219, hx219_0⟩ := Kd.at_int (by repeat (first | (with_reducible exact HR218_0.out) | (with_reducible refine Kd.C_alloc ?_ _) | (with_reducible refine Kd.C_drewN ?_ _) | (with_reducible refine Kd.C_drew ?_) | exact HR218_0.out)) x6_2 p219 q219
                                  cases e219
                                  replace p219 := eq_true p219
                                  replace q219 := eq_true q219
                                  have p220 : 0 ≤ (x5_1 : Int) := od
                                  have q220 : x5_1 < (x4_3.length : Int) := od
                                  obtain ⟨ad220, A220_0, c220_0, e220, hx220_0, hl220_0, hi220_0⟩ := at_L5 (Kd.S_reads' HO_4.out).2.2 x5_1 p220 q220
                                  obtain rfl : (⟨go10, 0, none⟩ : Addr) = ad220 := (by injection e220)
                                  obtain ⟨ce220, hce220, hMe220, hcc220⟩ := Kd.S_get HO_4.out [] x5_1 p220 (by first | exact q220 | exact od | (have e_ := (Kd.S_reads' HO_4.out).1; omega))
                                  obtain ⟨ve220_0, rfl, ge220_0⟩ := hMe220
                                  have hv220_0 := hcc220 0 _ rfl
                                  rw [Nat.add_zero, show ((Kd.slice 3 (Kd.int .i64))).sz = 1 from rfl, Nat.mul_one] at hv220_0
                                  replace hv220_0 := Option.some.inj (hv220_0.symm.trans hx220_0)
                                  rw [hv220_0] at ge220_0
                                  have HL220_0 := am (show Kd.R (Kd.int .i64) 3 _ _ _ _ (rd_L5 x4_3 x5_1) from ge220_0)
                                  clear hv220_0 ge220_0
                                  have HX220_0 := am hx220_0
                                  clear hcc220 hce220
                                  (first | simp only [add_plain] at hx220_0 | simp only [add_at] at hx220_0 | simp only [Addr.add, Nat.zero_add] at hx220_0 | skip)
                                  have HR220_0 := am hi220_0
                                  have HC220_0 := am hl220_0
                                  clear hi220_0 hl220_0
                                  replace p220 := eq_true p220
                                  replace q220 := eq_true q220
                                  have ea_ := Option.some.inj (hx212_0.symm.trans hx220_0)
                                  injection ea_ with ea_ en_ ec_
                                  subst ea_
                                  subst ec_
                                  clear en_
                                  have p67 : 0 ≤ (x6_2 : Int) := od
                                  have q67 : (x6_2 : Int) < (((rd_L5 x4_3 x5_1).length : Int) : Int) := od
                                  obtain ⟨go67, co67, eo67, gb67, gl67, cl67, HG67⟩ := Kd.R_form HL220_0.out (by omega)
                                  (first | cases eo67 | (injection eo67 with ea_ en_ ec_; (first | subst ea_ | (injection ea_ with ea_; subst ea_)); subst ec_; clear en_))
                                  have GB67 := am gb67
                                  have GG67 := am HG67
                                  clear gb67 gl67 HG67
                                  (first | simp only [add_plain] at hx219_0 | skip)
                                  obtain ⟨hx67_0, hf67_0⟩ := Kd.R_celln 0 HL220_0.out (x6_2 : Int) p67 q67
                                  replace p67 := eq_true p67
                                  replace q67 := eq_true q67
                                  have hq68 : (x5_1 : Int) < (x4_3.length : Int) := (by have h_ : (x5_1 : Int) < ((x4_3.length : Int) : Int) := od; first | exact h_ | (have e_ := (Kd.S_reads' HO_4.out).1; omega) | simpa only [List.length_set, List.length_set] using h_)
                                  obtain ⟨oki68, ce68, hcl68, hM68, hcc68, hok68, hbk68⟩ := Kd.S_borrow HO_4.out [] (x5_1 : Int) (od) hq68
                                  obtain ⟨ve68_0, rfl, ge68_0⟩ := hM68
                                  have hv68 := hcc68 0 _ rfl
                                  rw [Nat.add_zero, show ((Kd.slice 3 (Kd.int .i64))).sz = 1 from rfl, Nat.mul_one] at hv68
                                  replace hv68 := Option.some.inj (hv68.symm.trans HX220_0.out)
                                  subst hv68
                                  clear hcc68 hcl68
                                  replace ge68_0 := (show Kd.R (Kd.int .i64) 3 _ _ _ _ (rd_L5 x4_3 x5_1) from ge68_0)
                                  have HP68 := Kd.R_putg ge68_0 (x6_2 : Int) (wrap64 ((rd (rd_L5 x4_3 (ji39)) x7_3) + 1))
                                  go_wp2_with (first | ((with_reducible refine gate_store (t := 3) (p := 94) rfl ?_); refine store_event (t := 3) (p := 94) (v := ?vo_w69) (w1 := (wr.setCell ⟨go67, (x6_2 : Int).toNat, none⟩ (.int .i64 (wrap64 ((rd (rd_L5 x4_3 (ji39)) x7_3) + 1))))) ?hg ?ho ?hn ?hr ?_; (case ho => rfl); (case hg => rfl); (case hn => rfl); (case hr => first | (go_simp; done) | (go_simp; rfl)); intro w69 hw; have hg : wr.grownBy w69 (some go67) := (by rw [hw]; exact HP68.2); have hz_ : Kd.R (Kd.int .i64) 3 w69 w.heap.size oki68 (.slice (some ⟨go67, 0, none⟩) (rd_L5 x4_3 x5_1).length c212_0) y221 := (by rw [hw, Ny221.out]; exact HP68.1); have hp_ : Kd.S (Kd.slice 3 (Kd.int .i64)) 26 w69 w.heap.size (fun _ => True) (.slice (some ⟨go10, 0, none⟩) x4_3.length co10) y223 := (by rw [Ny223.out]; exact hbk68 hg (fun k_ e_ => by injection e_ with e_; subst e_; exact ge68_0.1 _ rfl) (Kd.M_row hz_)); have hm_ := Kd.R_mono hz_ hok68; clear HP68 hbk68; have n0_ := am (hp_); have n1_ := am ((by rw [hw]; exact below_set (HB.out) GB67.out : Below w.heap.size w w69)); have n2_ := am (hm_); have n3_ := am ((Kd.R_reads' hm_).2.1); clear HO_4; clear HB; clear HL198_0; clear HL212_0; clear HL218_0; clear HL220_0; have HO_4 := n0_; have HB := n1_; have HL231 := n2_; have HC222 := n3_; clear n0_ n1_ n2_ n3_; clear hg hw hp_ hz_ hm_ hok68))
                                  (try simp only [← hl4_3])
                                  go_roundg k3
                                  case measure => have := HK1.out; have := HK2.out; have := HK3.out; omega
                                  case rel => exact ⟨(y223), (wrap64 (x7_3 + 1)), (by first | rfl | (simp; done) | (simp [*]; done)), H', ⟨by have := HK1.out; have := HK2.out; have := HK3.out; omega⟩, ⟨by (try simp only [hl4_2]); (try simp only [hl4_3]); (with_reducible repeat (first | apply Kd.S_alloc | apply Kd.S_drewN | apply Kd.S_drew)); exact HO_4.out⟩, ⟨bu HB.out⟩⟩
                                 ·rw [if_neg c66] at H
                                  have c66b0 : decide ((wrap64 ((rd (rd_L5 x4_3 (ji39)) x7_3) + 1)) < (rd (rd_L5 x4_3 x5_1) x6_2)) = false := decide_eq_false c66
                                  clear c66
                                  have H' := am H
                                  clear H
                                  have p198 : 0 ≤ ((ji39) : Int) := od
                                  have q198 : (ji39) < (x4_3.length : Int) := od
                                  obtain ⟨ad198, A198_0, c198_0, e198, hx198_0, hl198_0, hi198_0⟩ := at_L5 (Kd.S_reads' HO_4.out).2.2 (ji39) p198 q198
                                  obtain rfl : (⟨go10, 0, none⟩ : Addr) = ad198 := (by injection e198)
                                  obtain ⟨ce198, hce198, hMe198, hcc198⟩ := Kd.S_get HO_4.out [] (ji39) p198 (by first | exact q198 | exact od | (have e_ := (Kd.S_reads' HO_4.out).1; omega))
                                  obtain ⟨ve198_0, rfl, ge198_0⟩ := hMe198
                                  have hv198_0 := hcc198 0 _ rfl
                                  rw [Nat.add_zero, show ((Kd.slice 3 (Kd.int .i64))).sz = 1 from rfl, Nat.mul_one] at hv198_0
                                  replace hv198_0 := Option.some.inj (hv198_0.symm.trans hx198_0)
                                  rw [hv198_0] at ge198_0
                                  have HL198_0 := am (show Kd.R (Kd.int .i64) 3 _ _ _ _ (rd_L5 x4_3 (ji39)) from ge198_0)
                                  clear hv198_0 ge198_0
                                  have HX198_0 := am hx198_0
                                  clear hcc198 hce198
                                  (first | simp only [add_plain] at hx198_0 | simp only [add_at] at hx198_0 | simp only [Addr.add, Nat.zero_add] at hx198_0 | skip)
                                  have HR198_0 := am hi198_0
                                  have HC198_0 := am hl198_0
                                  clear hi198_0 hl198_0
                                  replace p198 := eq_true p198
                                  replace q198 := eq_true q198
                                  have p199 : 0 ≤ (x7_3 : Int) := od
                                  have q199 : x7_3 < ((rd_L5 x4_3 (ji39)).length : Int) := od
                                  obtain ⟨ad199, e199, hx199_0⟩ := Kd.at_int (by repeat (first | (with_reducible exact HR198_0.out) | (with_reducible refine Kd.C_alloc ?_ _) | (with_reducible refine Kd.C_drewN ?_ _) | (with_reducible refine Kd.C_drew ?_) | exact HR198_0.out)) x7_3 p199 q199
                                  cases e199
                                  replace p199 := eq_true p199
                                  replace q199 := eq_true q199
                                  have p212 : 0 ≤ (x5_1 : Int) := od
                                  have q212 : x5_1 < (x4_3.length : Int) := od
                                  obtain ⟨ad212, A212_0, c212_0, e212, hx212_0, hl212_0, hi212_0⟩ := at_L5 (Kd.S_reads' HO_4.out).2.2 x5_1 p212 q212
                                  obtain rfl : (⟨go10, 0, none⟩ : Addr) = ad212 := (by injection e212)
                                  obtain ⟨ce212, hce212, hMe212, hcc212⟩ := Kd.S_get HO_4.out [] x5_1 p212 (by first | exact q212 | exact od | (have e_ := (Kd.S_reads' HO_4.out).1; omega))
                                  obtain ⟨ve212_0, rfl, ge212_0⟩ := hMe212
                                  have hv212_0 := hcc212 0 _ rfl
                                  rw [Nat.add_zero, show ((Kd.slice 3 (Kd.int .i64))).sz = 1 from rfl, Nat.mul_one] at hv212_0
                                  replace hv212_0 := Option.some.inj (hv212_0.symm.trans hx212_0)
                                  rw [hv212_0] at ge212_0
                                  have HL212_0 := am (show Kd.R (Kd.int .i64) 3 _ _ _ _ (rd_L5 x4_3 x5_1) from ge212_0)
                                  clear hv212_0 ge212_0
                                  have HX212_0 := am hx212_0
                                  clear hcc212 hce212
                                  (first | simp only [add_plain] at hx212_0 | simp only [add_at] at hx212_0 | simp only [Addr.add, Nat.zero_add] at hx212_0 | skip)
                                  have HR212_0 := am hi212_0
                                  have HC212_0 := am hl212_0
                                  clear hi212_0 hl212_0
                                  replace p212 := eq_true p212
                                  replace q212 := eq_true q212
                                  have p213 : 0 ≤ (x6_2 : Int) := od
                                  have q213 : x6_2 < ((rd_L5 x4_3 x5_1).length : Int) := od
                                  obtain ⟨ad213, e213, hx213_0⟩ := Kd.at_int (by repeat (first | (with_reducible exact HR212_0.out) | (with_reducible refine Kd.C_alloc ?_ _) | (with_reducible refine Kd.C_drewN ?_ _) | (with_reducible refine Kd.C_drew ?_) | exact HR212_0.out)) x6_2 p213 q213
                                  cases e213
                                  replace p213 := eq_true p213
                                  replace q213 := eq_true q213
                                  have p218 : 0 ≤ (x5_1 : Int) := od
                                  have q218 : x5_1 < (x4_3.length : Int) := od
                                  obtain ⟨ad218, A218_0, c218_0, e218, hx218_0, hl218_0, hi218_0⟩ := at_L5 (Kd.S_reads' HO_4.out).2.2 x5_1 p218 q218
                                  obtain rfl : (⟨go10, 0, none⟩ : Addr) = ad218 := (by injection e218)
                                  obtain ⟨ce218, hce218, hMe218, hcc218⟩ := Kd.S_get HO_4.out [] x5_1 p218 (by first | exact q218 | exact od | (have e_ := (Kd.S_reads' HO_4.out).1; omega))
                                  obtain ⟨ve218_0, rfl, ge218_0⟩ := hMe218
                                  have hv218_0 := hcc218 0 _ rfl
                                  rw [Nat.add_zero, show ((Kd.slice 3 (Kd.int .i64))).sz = 1 from rfl, Nat.mul_one] at hv218_0
                                  replace hv218_0 := Option.some.inj (hv218_0.symm.trans hx218_0)
                                  rw [hv218_0] at ge218_0
                                  have HL218_0 := am (show Kd.R (Kd.int .i64) 3 _ _ _ _ (rd_L5 x4_3 x5_1) from ge218_0)
                                  clear hv218_0 ge218_0
                                  have HX218_0 := am hx218_0
                                  clear hcc218 hce218
                                  (first | simp only [add_plain] at hx218_0 | simp only [add_at] at hx218_0 | simp only [Addr.add, Nat.zero_add] at hx218_0 | skip)
                                  have HR218_0 := am hi218_0
                                  have HC218_0 := am hl218_0
                                  clear hi218_0 hl218_0
                                  replace p218 := eq_true p218
                                  replace q218 := eq_true q218
                                  have ea_ := Option.some.inj (hx212_0.symm.trans hx218_0)
                                  injection ea_ with ea_ en_ ec_
                                  subst ea_
                                  subst ec_
                                  clear en_
                                  have p219 : 0 ≤ (x6_2 : Int) := od
                                  have q219 : x6_2 < ((rd_L5 x4_3 x5_1).length : Int) := od
                                  obtain ⟨ad219, e219, hx219_0⟩ := Kd.at_int (by repeat (first | (with_reducible exact HR218_0.out) | (with_reducible refine Kd.C_alloc ?_ _) | (with_reducible refine Kd.C_drewN ?_ _) | (with_reducible refine Kd.C_drew ?_) | exact HR218_0.out)) x6_2 p219 q219
                                  cases e219
                                  replace p219 := eq_true p219
                                  replace q219 := eq_true q219
                                  go_wp2
                                  (try simp only [← hl4_3])
                                  go_roundg k3
                                  case measure => have := HK1.out; have := HK2.out; have := HK3.out; omega
                                  case rel => exact ⟨(x4_3), (wrap64 (x7_3 + 1)), (by first | rfl | (simp; done) | (simp [*]; done)), H', ⟨by have := HK1.out; have := HK2.out; have := HK3.out; omega⟩, ⟨by (try simp only [hl4_2]); (try simp only [hl4_3]); (with_reducible repeat (first | apply Kd.S_alloc | apply Kd.S_drewN | apply Kd.S_drew)); exact HO_4.out⟩, ⟨bu HB.out⟩⟩
                               ·rw [if_neg c61] at H
                                exact absurd H (by simp)
                              ·rw [if_neg c60] at H
                               exact absurd H (by simp)
                             ·rw [if_neg c59] at H
                              exact absurd H (by simp)
                            ·rw [if_neg c58] at H
                             exact absurd H (by simp)
                         ·rw [if_neg c43] at H
                          exact absurd H (by simp)
                        ·rw [if_neg c42] at H
                         exact absurd H (by simp)
                       ·rw [if_neg c41] at H
                        exact absurd H (by simp)
                      ·rw [if_neg c40] at H
                       exact absurd H (by simp)
                     ·rw [if_neg c38] at H
                      have c38b0 : decide (x7_3 ≤ 20) = false := decide_eq_false c38
                      clear c38
                      have H' := am H
                      clear H
                      go_wp2
                      (try simp only [← hl4_2, ← hl4_3])
                      go_roundg k3
                      case measure => have := HK1.out; have := HK2.out; have := HK3.out; omega
                      case rel => exact ⟨(x4_3), (wrap64 (x6_2 + 1)), (by first | rfl | (simp; done) | (simp [*]; done)), H', ⟨by have := HK1.out; have := HK2.out; have := HK3.out; omega⟩, ⟨by (try simp only [hl4_2]); (try simp only [hl4_3]); (with_reducible repeat (first | apply Kd.S_alloc | apply Kd.S_drewN | apply Kd.S_drew)); exact HO_4.out⟩, ⟨bu HB.out⟩⟩
                ·rw [if_neg c21] at H
                 exact absurd H (by simp)
               ·rw [if_neg c19] at H
                exact absurd H (by simp)
              ·rw [if_neg c18] at H
               exact absurd H (by simp)
             ·rw [if_neg c17] at H
              exact absurd H (by simp)
            ·rw [if_neg c16] at H
             exact absurd H (by simp)
           ·rw [if_neg c15] at H
            have c15b0 : decide (x6_2 ≤ 20) = false := decide_eq_false c15
            clear c15
            have H' := am H
            clear H
            go_wp2
            (try simp only [← hl4_2])
            go_roundg k2
            case measure => have := HK1.out; have := HK2.out; omega
            case rel => exact ⟨(x4_2), (wrap64 (x5_1 - 1)), (by first | rfl | (simp; done) | (simp [*]; done)), H', ⟨by have := HK1.out; have := HK2.out; omega⟩, ⟨by (try simp only [hl4_2]); (with_reducible repeat (first | apply Kd.S_alloc | apply Kd.S_drewN | apply Kd.S_drew)); exact HO_4.out⟩, ⟨bu HB.out⟩⟩
        ·rw [if_neg c9] at H
         exact absurd H (by simp)
       ·rw [if_neg c8] at H
        exact absurd H (by simp)
      ·rw [if_neg c7] at H
       exact absurd H (by simp)
     ·rw [if_neg c6] at H
      have c6b0 : decide (0 ≤ x5_1) = false := decide_eq_false c6
      clear c6
      obtain rfl := Option.some.inj H
      go_wp2
      go_ret
      exact ⟨_, by first | rfl | (simp [errW_none, errW_some] <;> rfl) | (simp [*, errW_none, errW_some] <;> rfl), by (with_reducible repeat (first | apply Kd.S_alloc | apply Kd.S_drewN | apply Kd.S_drew)); exact HO_4.out, bu HB.out⟩
  ·rw [if_neg c3] at H
   exact absurd H (by simp)
 ·rw [if_neg c2] at H
  exact absurd H (by simp)

end Go.Proofs.YtcndojoghmblaaaDoor.SF
