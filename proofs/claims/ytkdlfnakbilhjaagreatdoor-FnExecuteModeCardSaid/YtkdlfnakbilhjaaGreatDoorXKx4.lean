-- Made by this session's gprint.py out of the translation. Not trusted: Lean checks it.
import Derived.Test.YtkdlfnakbilhjaaGreatDoorXKx0
import Derived.Test.YtkdlfnakbilhjaaGreatDoorXKx2
import Derived.Test.YtkdlfnakbilhjaaGreatDoorXKx3
namespace Go.Proofs.YtkdlfnakbilhjaaGreatDoor.XK
open Go.RowKit Go.Proofs.YtkdlfnakbilhjaaGreatDoorW.PrintWords Go.Proofs.YtkdlfnakbilhjaaGreatDoorW.PrintLast Go.Proofs.YtkdlfnakbilhjaaGreatDoorW.PrintMore
attribute [local go_sem] max2_int min2_int max_two min_two max_three min_three max_four min_four   -- for this text's walks alone
set_option linter.unusedVariables false
set_option linter.unusedSimpArgs false

/-! ### impl_Entry_valid: function 122 -/
mutual
def impl_Entry_valid.j0 : Nat → Bool → ByteArray → Int → List (S49) → Option (Bool)
 | 0, _, _, _, _ => none
 | k + 1, x24, x143000, x143001, x143002 => if x24 = true then (some false) else (impl_Entry_valid.l0 k (x143000.size : Int) 0 x143000 x143001 x143002)
def impl_Entry_valid.l0 : Nat → Int → Int → ByteArray → Int → List (S49) → Option (Bool)
 | 0, _, _, _, _, _ => none
 | k + 1, x27, x28, x143000, x143001, x143002 => if x28 < x27 then (if 0 ≤ x28 then (if x28 < (x143000.size : Int) then (if (bt x143000 x28) < 97 then (some false) else (if (bt x143000 x28) > 122 then (some false) else (impl_Entry_valid.l0 k x27 (wrap64 (x28 + 1)) x143000 x143001 x143002))) else (none)) else (none)) else ((impl_tonesValid.f k x143002 1 8).bind fun t149 => (some t149))
end
def impl_Entry_valid.f (k : Nat) (a0_0 : ByteArray) (a0_1 : Int) (l0_2 : List (S49)) : Option (Bool) := (impl_modeAt.f a0_1).bind fun bt143 => (if bt143.2.2.2.2 = true then (if a0_0.toList = ([] : List UInt8) then (impl_Entry_valid.j0 k true a0_0 a0_1 l0_2) else (impl_Entry_valid.j0 k (decide ((a0_0.size : Int) > 10)) a0_0 a0_1 l0_2)) else (impl_Entry_valid.j0 k true a0_0 a0_1 l0_2))
theorem impl_Entry_valid.mono_l : ∀ k, (∀ y0 y1 y2 y3, LeO (impl_Entry_valid.j0 k y0 y1 y2 y3) (impl_Entry_valid.j0 (k + 1) y0 y1 y2 y3)) ∧ (∀ y0 y1 y2 y3 y4, LeO (impl_Entry_valid.l0 k y0 y1 y2 y3 y4) (impl_Entry_valid.l0 (k + 1) y0 y1 y2 y3 y4))
 | 0 => ⟨fun _ _ _ _ r h => by simp [impl_Entry_valid.j0] at h, fun _ _ _ _ _ r h => by simp [impl_Entry_valid.l0] at h⟩
 | k + 1 => by
  obtain ⟨ih0, ih1⟩ := impl_Entry_valid.mono_l k
  refine ⟨?_, ?_⟩
  ·intro y0 y1 y2 y3
   unfold impl_Entry_valid.j0
   repeat' first
   | (with_reducible exact ih0 _ _ _ _)
   | (with_reducible exact ih1 _ _ _ _ _)
   | (with_reducible exact impl_tonesValid.mono _ _ _ _)
   | (with_reducible exact LeO.refl _)
   | (with_reducible exact LeO.none _)
   | (with_reducible refine LeO.ite ?_ ?_)
   | (with_reducible refine LeO.bind ?_ (fun _ => ?_))
   | exact ih0 _ _ _ _
   | exact ih1 _ _ _ _ _
   | exact impl_tonesValid.mono _ _ _ _
   | exact LeO.none _
   | refine LeO.ite ?_ ?_
   | refine LeO.bind ?_ (fun _ => ?_)
  ·intro y0 y1 y2 y3 y4
   unfold impl_Entry_valid.l0
   repeat' first
   | (with_reducible exact ih0 _ _ _ _)
   | (with_reducible exact ih1 _ _ _ _ _)
   | (with_reducible exact impl_tonesValid.mono _ _ _ _)
   | (with_reducible exact LeO.refl _)
   | (with_reducible exact LeO.none _)
   | (with_reducible refine LeO.ite ?_ ?_)
   | (with_reducible refine LeO.bind ?_ (fun _ => ?_))
   | exact ih0 _ _ _ _
   | exact ih1 _ _ _ _ _
   | exact impl_tonesValid.mono _ _ _ _
   | exact LeO.none _
   | refine LeO.ite ?_ ?_
   | refine LeO.bind ?_ (fun _ => ?_)
theorem impl_Entry_valid.mono : ∀ a0 a1 a2 k, LeO (impl_Entry_valid.f k a0 a1 a2) (impl_Entry_valid.f (k + 1) a0 a1 a2) := by
 intro a0 a1 a2 k
 obtain ⟨ih0, ih1⟩ := impl_Entry_valid.mono_l k
 unfold impl_Entry_valid.f
 repeat' first
   | (with_reducible exact ih0 _ _ _ _)
   | (with_reducible exact ih1 _ _ _ _ _)
   | (with_reducible exact impl_tonesValid.mono _ _ _ _)
   | (with_reducible exact LeO.refl _)
   | (with_reducible exact LeO.none _)
   | (with_reducible refine LeO.ite ?_ ?_)
   | (with_reducible refine LeO.bind ?_ (fun _ => ?_))
   | exact ih0 _ _ _ _
   | exact ih1 _ _ _ _ _
   | exact impl_tonesValid.mono _ _ _ _
   | exact LeO.none _
   | refine LeO.ite ?_ ?_
   | refine LeO.bind ?_ (fun _ => ?_)
set_option maxHeartbeats 8000000 in
set_option maxRecDepth 100000 in
theorem impl_Entry_valid.calls (k : Nat) (a0_0 : ByteArray) (a0_1 : Int) (A0_2 : Option Addr) (c0_2 : Nat) (l0_2 : List (S49)) (r : Bool) (w : World) (hr0_2 : Kd.C k49 w A0_2 l0_2.length l0_2) (hc0_2 : l0_2.length ≤ c0_2) (hTD : TabD w) (h : impl_Entry_valid.f k a0_0 a0_1 l0_2 = some r) :
  Calls Tryz.prog 122 #[.agg #[.string a0_0, .int .i64 a0_1, .slice A0_2 l0_2.length c0_2]] w fun e w' => e = .returned (.bool r) ∧ Below w.heap.size w w' := by
 have hu127 := Tryz.underlying127
 have hu78 := Tryz.underlying78
 have HTD := am hTD
 clear hTD
 have HR0_2 := am hr0_2
 have HC0_2 := am hc0_2
 clear hr0_2 hc0_2
 have HB := am (Below.refl w.heap.size w)
 have H : ((impl_modeAt.f a0_1).bind fun bt143 => (if bt143.2.2.2.2 = true then (if a0_0.toList = ([] : List UInt8) then (impl_Entry_valid.j0 k true a0_0 a0_1 l0_2) else (impl_Entry_valid.j0 k (decide ((a0_0.size : Int) > 10)) a0_0 a0_1 l0_2)) else (impl_Entry_valid.j0 k true a0_0 a0_1 l0_2))) = some r := h
 clear h
 replace H := Option.bind_eq_some_iff.mp H
 obtain ⟨⟨t143, t144, t145, t146, t147⟩, A20, H⟩ := H
 replace H : (if t147 = true then (if a0_0.toList = ([] : List UInt8) then (impl_Entry_valid.j0 k true a0_0 a0_1 l0_2) else (impl_Entry_valid.j0 k (decide ((a0_0.size : Int) > 10)) a0_0 a0_1 l0_2)) else (impl_Entry_valid.j0 k true a0_0 a0_1 l0_2)) = some r := H
 have A2 := am A20
 clear A20
 have HC3 := am H
 clear H
 go_enter Tryz.func122, Tryz.ntmps122
 go_upto_region 2 with (first | ((with_reducible refine gate_dst (N := 1) rfl ?_); (try (refine gate_guard (by rfl) ?_; dsimp only)); refine box_event ?hg (N := 1) ?hd (cs := #[.string a0_0, .int .i64 a0_1, .slice A0_2 l0_2.length c0_2]) (t := 127) ?hr ?_; (case hd => rfl); (case hg => rfl); (case hr => first | (go_simp; done) | (go_simp; rfl)); intro gb142 hg w4 hbox hb; have n0_ := am (below_step (bu HB.out) hb); have n1_ := am (hbox); have n2_ := am ((by rw [hg]; exact (below_size (bu HB.out)) : w.heap.size ≤ gb142)); have n3_ := am ((by rw [hg]; exact (below_size (bu HB.out)) : w.heap.size ≤ gb142)); clear HB; have HB := n0_; have BK142 := n1_; have GW142 := n2_; have GE142 := n3_; clear n0_ n1_ n2_ n3_; clear hb hbox hg; have hcz5_0 : w4.cell? ⟨gb142, 0, none⟩ = some (.string a0_0) := (blk_cell BK142.out 0).trans rfl; have hcz5_1 : w4.cell? ⟨gb142, 1, none⟩ = some (.int .i64 a0_1) := (blk_cell BK142.out 1).trans rfl; have hcz5_2 : w4.cell? ⟨gb142, 2, none⟩ = some (.slice A0_2 l0_2.length c0_2) := (blk_cell BK142.out 2).trans rfl; have hfz5_0 := blk_frozen BK142.out 0; have hfz5_1 := blk_frozen BK142.out 1; have hfz5_2 := blk_frozen BK142.out 2) | ((with_reducible refine gate_callee (f := 43) rfl ?_); refine goesL_ (some 9) rfl rfl Tryz.func43 (by kernel_rfl) rfl #[.int .i64 a0_1] rfl (by (try simp only [List.map_toArray, List.map_cons, List.map_nil]); first | done | rfl | (simp only [List.length_drop, List.length_take]; rfl)) ?_; (with_reducible refine (impl_modeAt.calls a0_1 t143 t144 t145 t146 t147 _ ?side1 A2.out).mono ?_); (case side1 => first | exact HTD.out | exact TabAt.below HTD.out (bu HB.out)); rintro e w6 ⟨rfl, hb⟩; refine ⟨_, rfl, ?_⟩; have n0_ := am (blk_below (g := gb142) (o := .cells #[.string a0_0, .int .i64 a0_1, .slice A0_2 l0_2.length c0_2] 127 (0, 0)) (gu BK142.out) hb); have n1_ := am (below_step (bu HB.out) hb); clear BK142; clear HB; have BK142 := n0_; have HB := n1_; clear n0_ n1_; (try clear hb); (try clear hb2); (try clear hk); (try clear hi)) | ((with_reducible refine gate_dst (N := 3) rfl ?_); (try (refine gate_guard (by rfl) ?_; dsimp only)); refine box_event ?hg (N := 3) ?hd (cs := #[.int .i64 0, .int .i64 0, .int .i64 0, .int .i64 0]) (t := 78) ?hr ?_; (case hd => rfl); (case hg => rfl); (case hr => first | (go_simp; done) | (go_simp; rfl)); intro gb148 hg w7 hbox hb; have n0_ := am (blk_below (g := gb142) (o := .cells #[.string a0_0, .int .i64 a0_1, .slice A0_2 l0_2.length c0_2] 127 (0, 0)) (gu BK142.out) hb); have n1_ := am (below_step (bu HB.out) hb); have n2_ := am (hbox); have n3_ := am ((by rw [hg]; exact (below_size (bu HB.out)) : w.heap.size ≤ gb148)); have n4_ := am ((by rw [hg]; exact (below_size (bu HB.out)) : w.heap.size ≤ gb148)); have n5_ := am ((by rw [hg]; exact Nat.ne_of_lt (blk_lt (g := gb142) (o := .cells #[.string a0_0, .int .i64 a0_1, .slice A0_2 l0_2.length c0_2] 127 (0, 0)) (gu BK142.out)) : gb142 ≠ gb148)); have n6_ := am ((by rw [hg]; exact Nat.ne_of_gt (blk_lt (g := gb142) (o := .cells #[.string a0_0, .int .i64 a0_1, .slice A0_2 l0_2.length c0_2] 127 (0, 0)) (gu BK142.out)) : gb148 ≠ gb142)); clear BK142; clear HB; have BK142 := n0_; have HB := n1_; have BK148 := n2_; have GW148 := n3_; have GE148 := n4_; have NB142_148 := n5_; have NB148_142 := n6_; clear n0_ n1_ n2_ n3_ n4_ n5_ n6_; clear hb hbox hg; have hnb8 := NB148_142.out; have hnc8 := NB142_148.out; have hcz9_0 : w7.cell? ⟨gb148, 0, none⟩ = some (.int .i64 0) := (blk_cell BK148.out 0).trans rfl; have hcz9_1 : w7.cell? ⟨gb148, 1, none⟩ = some (.int .i64 0) := (blk_cell BK148.out 1).trans rfl; have hcz9_2 : w7.cell? ⟨gb148, 2, none⟩ = some (.int .i64 0) := (blk_cell BK148.out 2).trans rfl; have hcz9_3 : w7.cell? ⟨gb148, 3, none⟩ = some (.int .i64 0) := (blk_cell BK148.out 3).trans rfl; have hfz9_0 := blk_frozen BK148.out 0; have hfz9_1 := blk_frozen BK148.out 1; have hfz9_2 := blk_frozen BK148.out 2; have hfz9_3 := blk_frozen BK148.out 3))
 (try simp only [Act.put, sA, sZ, sS])
 go_cut [24] (fun v24 wc => ∃ (kq : Nat) (x24_2 : Bool), v24 = .bool x24_2 ∧ Aside0 (impl_Entry_valid.j0 kq x24_2 a0_0 a0_1 l0_2 = some r) ∧ Aside0 (kq ≤ k) ∧ Aside0 (wc.heap[gb142]? = some (.cells #[.string a0_0, .int .i64 a0_1, (.slice A0_2 l0_2.length c0_2)] 127 (0, 0))) ∧ Aside0 (wc.heap[gb148]? = some (.cells #[.int .i64 t143, .int .i64 t144, .int .i64 t145, .int .i64 t146] 78 (0, 0))) ∧ Aside0 (Below w.heap.size w wc))
 case first =>
  have H := HC3.out
  clear HC3
  by_cases c10 : t147 = true
  ·subst c10
   have H1 : (if a0_0.toList = ([] : List UInt8) then (impl_Entry_valid.j0 k true a0_0 a0_1 l0_2) else (impl_Entry_valid.j0 k (decide ((a0_0.size : Int) > 10)) a0_0 a0_1 l0_2)) = some r := by rw [if_pos rfl] at H; exact H
   clear H
   have H := H1
   clear H1
   by_cases c11 : a0_0.toList = ([] : List UInt8)
   ·rw [if_pos c11] at H
    have c11b0 : (a0_0.toList == ([] : List UInt8)) = true := beq_iff_eq.mpr c11
    have c11b1 : (a0_0.toList != ([] : List UInt8)) = false := bne_eq_false_iff_eq.mpr c11
    clear c11
    (first | rw [c11b0] | (simp only [i64_w, i32_w]; rw [c11b0]) | skip)
    have H' := am H
    clear H
    have hnb12 := NB142_148.out
    have hnc12 := NB148_142.out
    have hcz13_0 : w7.cell? ⟨gb142, 0, none⟩ = some (.string a0_0) := (blk_cell BK142.out 0).trans rfl
    have hcz13_1 : w7.cell? ⟨gb142, 1, none⟩ = some (.int .i64 a0_1) := (blk_cell BK142.out 1).trans rfl
    have hcz13_2 : w7.cell? ⟨gb142, 2, none⟩ = some (.slice A0_2 l0_2.length c0_2) := (blk_cell BK142.out 2).trans rfl
    have hfz13_0 := blk_frozen BK142.out 0
    have hfz13_1 := blk_frozen BK142.out 1
    have hfz13_2 := blk_frozen BK142.out 2
    go_wp2
    go_meet
    case rel => exact ⟨_, (true), (by first | rfl | (simp; done) | (simp [*]; done)), H', ⟨by first | omega | exact Nat.le_refl _⟩, ⟨by (with_reducible repeat (first | refine blk_drewN ?_ _ | refine blk_drew ?_ | refine blk_alloc ?_ _)); refine blk_far ?_ NB142_148.out _; (with_reducible repeat (first | refine blk_drewN ?_ _ | refine blk_drew ?_ | refine blk_alloc ?_ _)); refine blk_far ?_ NB142_148.out _; (with_reducible repeat (first | refine blk_drewN ?_ _ | refine blk_drew ?_ | refine blk_alloc ?_ _)); refine blk_far ?_ NB142_148.out _; (with_reducible repeat (first | refine blk_drewN ?_ _ | refine blk_drew ?_ | refine blk_alloc ?_ _)); refine blk_far ?_ NB142_148.out _; (with_reducible repeat (first | refine blk_drewN ?_ _ | refine blk_drew ?_ | refine blk_alloc ?_ _)); exact BK142.out⟩, ⟨by (with_reducible repeat (first | refine blk_drewN ?_ _ | refine blk_drew ?_ | refine blk_alloc ?_ _)); refine blk_put (cs := #[.int .i64 t143, .int .i64 t144, .int .i64 t145, .int .i64 0]) ?_ 3 _ rfl; (with_reducible repeat (first | refine blk_drewN ?_ _ | refine blk_drew ?_ | refine blk_alloc ?_ _)); refine blk_put (cs := #[.int .i64 t143, .int .i64 t144, .int .i64 0, .int .i64 0]) ?_ 2 _ rfl; (with_reducible repeat (first | refine blk_drewN ?_ _ | refine blk_drew ?_ | refine blk_alloc ?_ _)); refine blk_put (cs := #[.int .i64 t143, .int .i64 0, .int .i64 0, .int .i64 0]) ?_ 1 _ rfl; (with_reducible repeat (first | refine blk_drewN ?_ _ | refine blk_drew ?_ | refine blk_alloc ?_ _)); refine blk_put (cs := #[.int .i64 0, .int .i64 0, .int .i64 0, .int .i64 0]) ?_ 0 _ rfl; (with_reducible repeat (first | refine blk_drewN ?_ _ | refine blk_drew ?_ | refine blk_alloc ?_ _)); exact BK148.out⟩, ⟨bu HB.out⟩⟩
   ·rw [if_neg c11] at H
    have c11b0 : (a0_0.toList == ([] : List UInt8)) = false := beq_eq_false_iff_ne.mpr c11
    have c11b1 : (a0_0.toList != ([] : List UInt8)) = true := bne_iff_ne.mpr c11
    (first | rw [c11b0] | (simp only [i64_w, i32_w]; rw [c11b0]) | skip)
    have H' := am H
    clear H
    have hnb14 := NB142_148.out
    have hnc14 := NB148_142.out
    have hcz15_0 : w7.cell? ⟨gb142, 0, none⟩ = some (.string a0_0) := (blk_cell BK142.out 0).trans rfl
    have hcz15_1 : w7.cell? ⟨gb142, 1, none⟩ = some (.int .i64 a0_1) := (blk_cell BK142.out 1).trans rfl
    have hcz15_2 : w7.cell? ⟨gb142, 2, none⟩ = some (.slice A0_2 l0_2.length c0_2) := (blk_cell BK142.out 2).trans rfl
    have hfz15_0 := blk_frozen BK142.out 0
    have hfz15_1 := blk_frozen BK142.out 1
    have hfz15_2 := blk_frozen BK142.out 2
    go_wp2
    go_meet
    case rel => exact ⟨_, (decide ((a0_0.size : Int) > 10)), (by first | rfl | (simp; done) | (simp [*]; done)), H', ⟨by first | omega | exact Nat.le_refl _⟩, ⟨by (with_reducible repeat (first | refine blk_drewN ?_ _ | refine blk_drew ?_ | refine blk_alloc ?_ _)); refine blk_far ?_ NB142_148.out _; (with_reducible repeat (first | refine blk_drewN ?_ _ | refine blk_drew ?_ | refine blk_alloc ?_ _)); refine blk_far ?_ NB142_148.out _; (with_reducible repeat (first | refine blk_drewN ?_ _ | refine blk_drew ?_ | refine blk_alloc ?_ _)); refine blk_far ?_ NB142_148.out _; (with_reducible repeat (first | refine blk_drewN ?_ _ | refine blk_drew ?_ | refine blk_alloc ?_ _)); refine blk_far ?_ NB142_148.out _; (with_reducible repeat (first | refine blk_drewN ?_ _ | refine blk_drew ?_ | refine blk_alloc ?_ _)); exact BK142.out⟩, ⟨by (with_reducible repeat (first | refine blk_drewN ?_ _ | refine blk_drew ?_ | refine blk_alloc ?_ _)); refine blk_put (cs := #[.int .i64 t143, .int .i64 t144, .int .i64 t145, .int .i64 0]) ?_ 3 _ rfl; (with_reducible repeat (first | refine blk_drewN ?_ _ | refine blk_drew ?_ | refine blk_alloc ?_ _)); refine blk_put (cs := #[.int .i64 t143, .int .i64 t144, .int .i64 0, .int .i64 0]) ?_ 2 _ rfl; (with_reducible repeat (first | refine blk_drewN ?_ _ | refine blk_drew ?_ | refine blk_alloc ?_ _)); refine blk_put (cs := #[.int .i64 t143, .int .i64 0, .int .i64 0, .int .i64 0]) ?_ 1 _ rfl; (with_reducible repeat (first | refine blk_drewN ?_ _ | refine blk_drew ?_ | refine blk_alloc ?_ _)); refine blk_put (cs := #[.int .i64 0, .int .i64 0, .int .i64 0, .int .i64 0]) ?_ 0 _ rfl; (with_reducible repeat (first | refine blk_drewN ?_ _ | refine blk_drew ?_ | refine blk_alloc ?_ _)); exact BK148.out⟩, ⟨bu HB.out⟩⟩
  ·replace c10 := Bool.eq_false_iff.mpr c10
   subst c10
   have H1 : (impl_Entry_valid.j0 k true a0_0 a0_1 l0_2) = some r := by rw [if_neg (show ¬ (false = true) by decide)] at H; exact H
   clear H
   have H := H1
   clear H1
   have H' := am H
   clear H
   go_wp2
   go_meet
   case rel => exact ⟨_, (true), (by first | rfl | (simp; done) | (simp [*]; done)), H', ⟨by first | omega | exact Nat.le_refl _⟩, ⟨by (with_reducible repeat (first | refine blk_drewN ?_ _ | refine blk_drew ?_ | refine blk_alloc ?_ _)); refine blk_far ?_ NB142_148.out _; (with_reducible repeat (first | refine blk_drewN ?_ _ | refine blk_drew ?_ | refine blk_alloc ?_ _)); refine blk_far ?_ NB142_148.out _; (with_reducible repeat (first | refine blk_drewN ?_ _ | refine blk_drew ?_ | refine blk_alloc ?_ _)); refine blk_far ?_ NB142_148.out _; (with_reducible repeat (first | refine blk_drewN ?_ _ | refine blk_drew ?_ | refine blk_alloc ?_ _)); refine blk_far ?_ NB142_148.out _; (with_reducible repeat (first | refine blk_drewN ?_ _ | refine blk_drew ?_ | refine blk_alloc ?_ _)); exact BK142.out⟩, ⟨by (with_reducible repeat (first | refine blk_drewN ?_ _ | refine blk_drew ?_ | refine blk_alloc ?_ _)); refine blk_put (cs := #[.int .i64 t143, .int .i64 t144, .int .i64 t145, .int .i64 0]) ?_ 3 _ rfl; (with_reducible repeat (first | refine blk_drewN ?_ _ | refine blk_drew ?_ | refine blk_alloc ?_ _)); refine blk_put (cs := #[.int .i64 t143, .int .i64 t144, .int .i64 0, .int .i64 0]) ?_ 2 _ rfl; (with_reducible repeat (first | refine blk_drewN ?_ _ | refine blk_drew ?_ | refine blk_alloc ?_ _)); refine blk_put (cs := #[.int .i64 t143, .int .i64 0, .int .i64 0, .int .i64 0]) ?_ 1 _ rfl; (with_reducible repeat (first | refine blk_drewN ?_ _ | refine blk_drew ?_ | refine blk_alloc ?_ _)); refine blk_put (cs := #[.int .i64 0, .int .i64 0, .int .i64 0, .int .i64 0]) ?_ 0 _ rfl; (with_reducible repeat (first | refine blk_drewN ?_ _ | refine blk_drew ?_ | refine blk_alloc ?_ _)); exact BK148.out⟩, ⟨bu HB.out⟩⟩
 case rest =>
  clear HC3
  try clear c1
  try clear p2
  try clear c4
  try clear c8
  try clear c10
  try clear c11
  try clear c11b0
  try clear c11b1
  try clear c12
  try clear c14
  try clear hcz13_0
  try clear hcz13_1
  try clear hcz13_2
  try clear hcz15_0
  try clear hcz15_1
  try clear hcz15_2
  try clear hcz5_0
  try clear hcz5_1
  try clear hcz5_2
  try clear hcz9_0
  try clear hcz9_1
  try clear hcz9_2
  try clear hcz9_3
  try clear hfz13_0
  try clear hfz13_1
  try clear hfz13_2
  try clear hfz15_0
  try clear hfz15_1
  try clear hfz15_2
  try clear hfz5_0
  try clear hfz5_1
  try clear hfz5_2
  try clear hfz9_0
  try clear hfz9_1
  try clear hfz9_2
  try clear hfz9_3
  obtain ⟨kq, x24_2, rfl, HA, HJ2, BK142, BK148, HB⟩ := hcut
  cases kq with
  | zero => exact absurd HA.out (by simp [impl_Entry_valid.j0])
  | succ kj2 =>
   have H := HA.out
   clear HA
   simp only [impl_Entry_valid.j0] at H
   by_cases c16 : x24_2 = true
   ·subst c16
    have H1 : (some false) = some r := by rw [if_pos rfl] at H; exact H
    clear H
    have H := H1
    clear H1
    obtain rfl := Option.some.inj H
    go_wp2
    go_ret
    exact ⟨by first | rfl | (simp [errW_none, errW_some] <;> rfl) | (simp [*, errW_none, errW_some] <;> rfl), bu HB.out⟩
   ·replace c16 := Bool.eq_false_iff.mpr c16
    subst c16
    have H1 : (impl_Entry_valid.l0 kj2 (a0_0.size : Int) 0 a0_0 a0_1 l0_2) = some r := by rw [if_neg (show ¬ (false = true) by decide)] at H; exact H
    clear H
    have H := H1
    clear H1
    have H' := am H
    clear H
    have hnb17 := NB142_148.out
    have hnc17 := NB148_142.out
    have hcz18_0 : wc.cell? ⟨gb142, 0, none⟩ = some (.string a0_0) := (blk_cell BK142.out 0).trans rfl
    have hcz18_1 : wc.cell? ⟨gb142, 1, none⟩ = some (.int .i64 a0_1) := (blk_cell BK142.out 1).trans rfl
    have hcz18_2 : wc.cell? ⟨gb142, 2, none⟩ = some (.slice A0_2 l0_2.length c0_2) := (blk_cell BK142.out 2).trans rfl
    have hfz18_0 := blk_frozen BK142.out 0
    have hfz18_1 := blk_frozen BK142.out 1
    have hfz18_2 := blk_frozen BK142.out 2
    go_wp2
    go_loopg [28] kj2 (fun kq v28 w' => ∃ (x28_2 : Int), v28 = .int .i64 x28_2 ∧ Aside0 (impl_Entry_valid.l0 kq (a0_0.size : Int) x28_2 a0_0 a0_1 l0_2 = some r) ∧ Aside0 (kq ≤ kj2) ∧ Aside0 (w'.heap[gb142]? = some (.cells #[.string a0_0, .int .i64 a0_1, (.slice A0_2 l0_2.length c0_2)] 127 (0, 0))) ∧ Aside0 (w'.heap[gb148]? = some (.cells #[.int .i64 t143, .int .i64 t144, .int .i64 t145, .int .i64 t146] 78 (0, 0))) ∧ Aside0 (Below w.heap.size w w'))
    case atStart => exact ⟨(0), (by first | rfl | (simp; done) | (simp [*]; done)), H', ⟨Nat.le_refl _⟩, ⟨gu BK142.out⟩, ⟨gu BK148.out⟩, ⟨bu HB.out⟩⟩
    case round =>
     clear H'
     try clear c1
     try clear p2
     try clear c4
     try clear c8
     try clear c10
     try clear c11
     try clear c11b0
     try clear c11b1
     try clear c12
     try clear c14
     try clear c16
     try clear c17
     try clear hcz13_0
     try clear hcz13_1
     try clear hcz13_2
     try clear hcz15_0
     try clear hcz15_1
     try clear hcz15_2
     try clear hcz18_0
     try clear hcz18_1
     try clear hcz18_2
     try clear hcz5_0
     try clear hcz5_1
     try clear hcz5_2
     try clear hcz9_0
     try clear hcz9_1
     try clear hcz9_2
     try clear hcz9_3
     try clear hfz13_0
     try clear hfz13_1
     try clear hfz13_2
     try clear hfz15_0
     try clear hfz15_1
     try clear hfz15_2
     try clear hfz18_0
     try clear hfz18_1
     try clear hfz18_2
     try clear hfz5_0
     try clear hfz5_1
     try clear hfz5_2
     try clear hfz9_0
     try clear hfz9_1
     try clear hfz9_2
     try clear hfz9_3
     try clear p2
     obtain ⟨x28_2, rfl, HA, HK2, BK142, BK148, HB⟩ := hrel
     cases gk with
     | zero => exact absurd HA.out (by simp [impl_Entry_valid.l0])
     | succ k2 =>
      have H := HA.out
      clear HA
      simp only [impl_Entry_valid.l0] at H
      by_cases c19 : x28_2 < (a0_0.size : Int)
      ·rw [if_pos c19] at H
       have c19b0 : decide (x28_2 < (a0_0.size : Int)) = true := decide_eq_true c19
       clear c19
       by_cases c20 : 0 ≤ x28_2
       ·rw [if_pos c20] at H
        have c20b0 : decide (0 ≤ x28_2) = true := decide_eq_true c20
        clear c20
        by_cases c21 : x28_2 < (a0_0.size : Int)
        ·rw [if_pos c21] at H
         have c21b0 : decide (x28_2 < (a0_0.size : Int)) = true := decide_eq_true c21
         clear c21
         by_cases c23 : (bt a0_0 x28_2) < 97
         ·rw [if_pos c23] at H
          have c23b0 : decide ((bt a0_0 x28_2) < 97) = true := decide_eq_true c23
          clear c23
          obtain rfl := Option.some.inj H
          have hnb24 := NB142_148.out
          have hnc24 := NB148_142.out
          have hcz25_0 : wr.cell? ⟨gb142, 0, none⟩ = some (.string a0_0) := (blk_cell BK142.out 0).trans rfl
          have hcz25_1 : wr.cell? ⟨gb142, 1, none⟩ = some (.int .i64 a0_1) := (blk_cell BK142.out 1).trans rfl
          have hcz25_2 : wr.cell? ⟨gb142, 2, none⟩ = some (.slice A0_2 l0_2.length c0_2) := (blk_cell BK142.out 2).trans rfl
          have hfz25_0 := blk_frozen BK142.out 0
          have hfz25_1 := blk_frozen BK142.out 1
          have hfz25_2 := blk_frozen BK142.out 2
          have p22 : 0 ≤ (x28_2 : Int) := od
          have q22 : x28_2 < (a0_0.size : Int) := od
          have hx22 := bt_at a0_0 x28_2
          replace p22 := eq_true p22
          replace q22 := eq_true q22
          go_wp2
          go_ret
          exact ⟨by first | rfl | (simp [errW_none, errW_some] <;> rfl) | (simp [*, errW_none, errW_some] <;> rfl), bu HB.out⟩
         ·rw [if_neg c23] at H
          have c23b0 : decide ((bt a0_0 x28_2) < 97) = false := decide_eq_false c23
          clear c23
          by_cases c27 : (bt a0_0 x28_2) > 122
          ·rw [if_pos c27] at H
           have c27b0 : decide (122 < (bt a0_0 x28_2)) = true := decide_eq_true c27
           clear c27
           obtain rfl := Option.some.inj H
           have hnb28 := NB142_148.out
           have hnc28 := NB148_142.out
           have hcz29_0 : wr.cell? ⟨gb142, 0, none⟩ = some (.string a0_0) := (blk_cell BK142.out 0).trans rfl
           have hcz29_1 : wr.cell? ⟨gb142, 1, none⟩ = some (.int .i64 a0_1) := (blk_cell BK142.out 1).trans rfl
           have hcz29_2 : wr.cell? ⟨gb142, 2, none⟩ = some (.slice A0_2 l0_2.length c0_2) := (blk_cell BK142.out 2).trans rfl
           have hfz29_0 := blk_frozen BK142.out 0
           have hfz29_1 := blk_frozen BK142.out 1
           have hfz29_2 := blk_frozen BK142.out 2
           have p22 : 0 ≤ (x28_2 : Int) := od
           have q22 : x28_2 < (a0_0.size : Int) := od
           have hx22 := bt_at a0_0 x28_2
           replace p22 := eq_true p22
           replace q22 := eq_true q22
           have p26 : 0 ≤ (x28_2 : Int) := od
           have q26 : x28_2 < (a0_0.size : Int) := od
           have hx26 := bt_at a0_0 x28_2
           replace p26 := eq_true p26
           replace q26 := eq_true q26
           go_wp2
           go_ret
           exact ⟨by first | rfl | (simp [errW_none, errW_some] <;> rfl) | (simp [*, errW_none, errW_some] <;> rfl), bu HB.out⟩
          ·rw [if_neg c27] at H
           have c27b0 : decide (122 < (bt a0_0 x28_2)) = false := decide_eq_false c27
           clear c27
           have H' := am H
           clear H
           have hnb30 := NB142_148.out
           have hnc30 := NB148_142.out
           have hcz31_0 : wr.cell? ⟨gb142, 0, none⟩ = some (.string a0_0) := (blk_cell BK142.out 0).trans rfl
           have hcz31_1 : wr.cell? ⟨gb142, 1, none⟩ = some (.int .i64 a0_1) := (blk_cell BK142.out 1).trans rfl
           have hcz31_2 : wr.cell? ⟨gb142, 2, none⟩ = some (.slice A0_2 l0_2.length c0_2) := (blk_cell BK142.out 2).trans rfl
           have hfz31_0 := blk_frozen BK142.out 0
           have hfz31_1 := blk_frozen BK142.out 1
           have hfz31_2 := blk_frozen BK142.out 2
           have p22 : 0 ≤ (x28_2 : Int) := od
           have q22 : x28_2 < (a0_0.size : Int) := od
           have hx22 := bt_at a0_0 x28_2
           replace p22 := eq_true p22
           replace q22 := eq_true q22
           have p26 : 0 ≤ (x28_2 : Int) := od
           have q26 : x28_2 < (a0_0.size : Int) := od
           have hx26 := bt_at a0_0 x28_2
           replace p26 := eq_true p26
           replace q26 := eq_true q26
           go_wp2
           go_roundg k2
           case measure => have := HJ2.out; have := HK2.out; omega
           case rel => exact ⟨(wrap64 (x28_2 + 1)), (by first | rfl | (simp; done) | (simp [*]; done)), H', ⟨by have := HJ2.out; have := HK2.out; omega⟩, ⟨gu BK142.out⟩, ⟨gu BK148.out⟩, ⟨bu HB.out⟩⟩
        ·rw [if_neg c21] at H
         exact absurd H (by simp)
       ·rw [if_neg c20] at H
        exact absurd H (by simp)
      ·rw [if_neg c19] at H
       have c19b0 : decide (x28_2 < (a0_0.size : Int)) = false := decide_eq_false c19
       clear c19
       replace H := Option.bind_eq_some_iff.mp H
       obtain ⟨t149, A320, H⟩ := H
       replace H : (some t149) = some r := H
       have A32 := am A320
       clear A320
       obtain rfl := Option.some.inj H
       have hnb33 := NB142_148.out
       have hnc33 := NB148_142.out
       have hcz34_0 : wr.cell? ⟨gb142, 0, none⟩ = some (.string a0_0) := (blk_cell BK142.out 0).trans rfl
       have hcz34_1 : wr.cell? ⟨gb142, 1, none⟩ = some (.int .i64 a0_1) := (blk_cell BK142.out 1).trans rfl
       have hcz34_2 : wr.cell? ⟨gb142, 2, none⟩ = some (.slice A0_2 l0_2.length c0_2) := (blk_cell BK142.out 2).trans rfl
       have hfz34_0 := blk_frozen BK142.out 0
       have hfz34_1 := blk_frozen BK142.out 1
       have hfz34_2 := blk_frozen BK142.out 2
       go_wp2_with (first | ((with_reducible refine gate_callee (f := 142) rfl ?_); refine goesL_ (some 46) rfl rfl Tryz.func142 (by kernel_rfl) rfl #[.slice A0_2 l0_2.length c0_2, .int .i64 1, .int .i64 8] rfl (by (try simp only [List.map_toArray, List.map_cons, List.map_nil]); first | done | rfl | (simp only [List.length_drop, List.length_take]; rfl)) ?_; (with_reducible refine (impl_tonesValid.calls k2 _ _ l0_2 1 8 t149 _ ?side1 ?side2 A32.out).mono ?_); (case side1 => repeat (first | exact (Kd.C_below HR0_2.out HB.out) | (with_reducible refine Kd.C_alloc ?_ _) | (with_reducible refine Kd.C_drewN ?_ _) | (with_reducible refine Kd.C_drew ?_))); (case side2 => exact HC0_2.out); rintro e w35 ⟨rfl, hb⟩; refine ⟨_, rfl, ?_⟩; have n0_ := am (blk_below (g := gb142) (o := .cells #[.string a0_0, .int .i64 a0_1, .slice A0_2 l0_2.length c0_2] 127 (0, 0)) (gu BK142.out) hb); have n1_ := am (blk_below (g := gb148) (o := .cells #[.int .i64 t143, .int .i64 t144, .int .i64 t145, .int .i64 t146] 78 (0, 0)) (gu BK148.out) hb); have n2_ := am (below_step (bu HB.out) hb); clear BK142; clear BK148; clear HB; have BK142 := n0_; have BK148 := n1_; have HB := n2_; clear n0_ n1_ n2_; (try clear hb); (try clear hb2); (try clear hk); (try clear hi)))
       go_ret
       exact ⟨by first | rfl | (simp [errW_none, errW_some] <;> rfl) | (simp [*, errW_none, errW_some] <;> rfl), bu HB.out⟩

/-! ### MelodyJoin, by hand -/
theorem infoJ : (Tryz.prog.info? 49).map (fun i => (i.zero, i.size, i.bytes)) = some (some (.agg #[.int .i64 0, .bool false]), 2, 16) := by kernel_rfl
theorem run_copy_nil0 {P : Program} (w : World) (dT sT ty elem : TypeId) (sz : Nat) (d a : Option Addr) (dCap sCap : Nat) (hu : P.underlying dT = some (.slice elem)) (hs : (P.info? elem).map (·.size) = some sz) :
  (Builtin.copy_ #[dT, sT] ty #[.slice d 0 dCap, .slice a 0 sCap]).run P w = .ok (goInt 0) w := by
 cases hq : P.info? elem with
 | none => simp [hq] at hs
 | some i =>
  have hl : ∀ (x : Addr), (loadCells x 0).run P w = .ok #[] w := fun x => by simpa using run_loadCells_list (P := P) w x [] (by simp)
  cases d <;> cases a <;> simp [Builtin.copy_, run_underlying hu, Builtin.lenOf, Builtin.firstCells, sizeOf, typeInfo, hq, storeCells, hl]
theorem run_copy_rows {P : Program} (w : World) (dT sT ty elem : TypeId) (sz b n dCap : Nat) (a : Addr) (sCap : Nat) (cs : List Value)
  (hu : P.underlying dT = some (.slice elem)) (hs : (P.info? elem).map (·.size) = some sz) (hn : cs.length = n * sz)
  (hsrc : ∀ j v, cs[j]? = some v → w.cell? (a.add j) = some v) (hc : ∀ j, j < cs.length → (w.cell? ⟨b, j, none⟩).isSome = true) (hf : ∀ j, j < cs.length → w.frozen? ⟨b, j, none⟩ = false) (h1 : ∀ v ∈ cs, v.oneCell' = true) :
  (Builtin.copy_ #[dT, sT] ty #[.slice (some ⟨b, 0, none⟩) n dCap, .slice (some a) n sCap]).run P w = .ok (goInt n) (w.setCells b 0 cs) := by
 have hl := run_firstCells_some (P := P) (w := w) sz n a n sCap cs hn hsrc
 have hst := run_storeCells_cells (P := P) b 0 cs 0 w (by simpa using hc) (by simpa using hf) h1
 cases hq : P.info? elem with
 | none => simp [hq] at hs
 | some i =>
  have hi : i.size = sz := by simpa [hq] using hs
  simp [Builtin.copy_, run_underlying hu, Builtin.lenOf, sizeOf, typeInfo, hq, hi, hl, hst]
theorem R_copy_all {α : Type} {P : Program} {ops : Array Oper} {rest : List Oper} {o : Oper} {a : Act} {Q : Exit → Act → World → Prop} (d : Kd α) {Rr : α → List Value → Prop} {w0 W : World} (base : Nat) (hgd : o.guard = none) (s x : Operand) (t t' e : TypeId)
  (ho : o.op = .call { callee := .builtin .copy, args := #[s, x], argTypes := #[t, t'] }) (ht : P.underlying t = some (.slice e)) (hinfo : (P.info? e).map (·.size) = some d.sz) (hs0 : 0 < d.sz)
  (v : Value) (xs ys : List α) (A : Option Addr) (c : Nat) (ok okp : Nat → Prop) (hs : a.eval s = v) (hx : a.eval x = .slice A ys.length c) (hxy : xs.length = ys.length)
  (HO : d.R e W base ok v xs) (HR : ReadsRow Rr d.sz W A ys.length ys) (hKM : ∀ x cs, Rr x cs → d.M W base okp x cs) (hokp : ∀ k, okp k → ok k ∧ some k ≠ v.ownBlock) (HB : Below base w0 W) (hbase : base ≤ W.heap.size)
  (h : ∀ w1, d.R e w1 base ok v ys → Below base w0 w1 → W.grownBy w1 v.ownBlock → wpList P ops Q rest (a.put o.dst (.int .i64 (ys.length : Int))) w1) :
  wpList P ops Q (o :: rest) a W := by
 have HO' := HO
 obtain ⟨hok, inner, hown, hr⟩ := HO
 have fin : ∀ w1, (Builtin.copy_ #[t, t'] o.type #[v, .slice A ys.length c]).run P W = .ok (goInt (ys.length : Int)) w1 → d.R e w1 base ok v ys → W.grownBy w1 v.ownBlock → wpList P ops Q (o :: rest) a W := by
  intro w1 hr hrow hg
  refine wpList_plain hgd fun K hK => ?_
  unfold Oper.wp execOp
  simp only [ho, resolve, invoke, builtin, Sem.run_bind, Sem.run_pure, Result.andThen_ok, List.map_toArray, List.map_cons, List.map_nil, hs, hx, hr]
  exact hK _ _ (h w1 hrow (HB.grown hg hbase (own_base hown)) hg)
 rcases Nat.eq_zero_or_pos ys.length with h0 | hp
 ·obtain rfl : ys = [] := List.eq_nil_of_length_eq_zero h0
  obtain rfl : xs = [] := List.eq_nil_of_length_eq_zero (by omega)
  obtain ⟨A', c', hv⟩ := own_slice hown
  refine fin W ?_ HO' (World.grownBy.refl W _)
  rw [hv]
  exact run_copy_nil0 W t t' o.type e d.sz A' A c' c ht hinfo
 ·obtain ⟨ad, rfl, _⟩ := HR.2.2 hp
  obtain ⟨news, hnr, hnc⟩ := ReadsRow.inner_ HR
  have hnM : Reps (d.M W base okp) d.sz ys news := hnr.imp_ (fun p c hp => hKM p c hp)
  have hone : ∀ u ∈ news, u.oneCell' = true := by
   intro u hu
   obtain ⟨q, hq, rfl⟩ := List.getElem_of_mem hu
   have hql : q / d.sz < ys.length := by
    rw [Nat.div_lt_iff_lt_mul hs0]
    rw [← hnM.1]
    exact hq
   have hc := hnM.2 (q / d.sz) _ (List.getElem?_eq_getElem hql)
   refine d.K_one (d.K_of_M hc) _ ?_
   rw [List.mem_iff_getElem?]
   refine ⟨q % d.sz, ?_⟩
   rw [List.getElem?_take, if_pos (Nat.mod_lt _ hs0), List.getElem?_drop, Nat.mul_comm, Nat.div_add_mod, List.getElem?_eq_getElem hq]
  rcases hown.2 with ⟨_, hx0⟩ | ⟨g, cap, cur, hv, hb, hh, hnc2, hcm, hcs, htake⟩
  ·omega
  have hnl : news.length = ys.length * d.sz := hnM.1
  have hle : news.length ≤ cur.size := by rw [hnl, hcs]; exact Nat.mul_le_mul_right _ (by omega)
  have hrun := run_copy_rows (P := P) W t t' o.type e d.sz g ys.length cap ad c news ht hinfo hnl hnc
   (fun j hj => by rw [cell_of_row W g j cur e (0, 0) hh]; simp; omega) (fun j _ => blk_frozen hh _) hone
  obtain ⟨cur', h3, h4, h5⟩ := setCells_row news 0 W cur hh (by omega)
  obtain ⟨s1, s2, s3, s4⟩ := setCells_same g news 0 W
  have hg : W.grownBy (W.setCells g 0 news) v.ownBlock := ⟨s1, s2, s3, by rw [s4]; exact Nat.le_refl _, fun k _ hk => setCells_far _ _ k (fun he => hk (by rw [hv, he]; simp [Value.ownBlock]))⟩
  refine fin (W.setCells g 0 news) (by rw [hv, ← hxy, hxy, hrun]) ?_ hg
  refine ⟨hok, news, ⟨hnl, .inr ⟨g, cap, cur', by rw [hv, hxy], hb, h3, by omega, hcm, by rw [h4, hcs], ?_⟩⟩, hnM.imp_ (fun p c hq => ?_)⟩
  ·rw [h5, List.take_zero, List.nil_append, List.take_append_of_le_length (by omega), List.take_of_length_le (by omega)]
  ·have h1 := d.M_move (w1 := W.setCells g 0 news) (fun k hk => hg.block k hk.2.2.1 (hokp k hk.1).2) (d.M_bound hq)
   exact d.M_mono (fun k hk => hokp k hk.1) h1
set_option maxHeartbeats 8000000 in
set_option maxRecDepth 100000 in
theorem copied_any (A0 : Option Addr) (c0 : Nat) (l0 : List S49) (w : World) (hr0 : Kd.C k49 w A0 l0.length l0) (hc0 : l0.length ≤ c0) (hl : l0.length ≤ 24) :
  Calls Tryz.prog 107 #[.slice A0 l0.length c0] w fun e w' => ∃ v, e = .returned v ∧ Kd.R k49 49 w' w.heap.size (fun _ => True) v l0 ∧ Below w.heap.size w w' := by
 have HR0 := am hr0
 have HC0 := am hc0
 clear hr0 hc0
 go_enter Tryz.func107, Tryz.ntmps107
 go_wp2_with (first | ((with_reducible refine gate_dst (N := 6) rfl ?_); refine Kd.R_make k49 w.heap.size 49 rfl (N := 6) rfl 23 _ _ rfl (l0.length : Int) rfl rfl Tryz.underlying23 (.agg #[.int .i64 0, .bool false]) 16 infoJ rfl (by decide) (by omega) (⟨0, false⟩ : S49) (ok := fun _ => True) (okp := fun _ => False) (k49_mkM _ _ _ (⟨0, false⟩ : S49)) (fun _ hk => hk.elim) trivial (by omega) ?ml (Below.refl _ _) (Nat.le_refl _) ?_; (case ml => omega); intro v7 w2 ho hb hg hnew; rw [Int.toNat_natCast] at ho; obtain ⟨A7, c7, rfl⟩ := Kd.R_slice ho; simp only [List.length_replicate] at ho ⊢; have HO7 := am ho; have HB7 := am hb; clear ho hb hg hnew) | ((with_reducible refine gate_builtin (b := .copy) (xs := #[.tmp 7, .tmp 8]) rfl ?_); refine R_copy_all k49 (w0 := w) w.heap.size rfl (.tmp 7) (.tmp 8) 23 23 49 rfl Tryz.underlying23 (by kernel_rfl) (by decide) _ (List.replicate l0.length (⟨0, false⟩ : S49)) l0 _ _ (fun _ => True) (fun _ => False) rfl rfl (by simp) HO7.out (Kd.C_below HR0.out HB7.out) (fun _ _ h => h) (fun _ hk => hk.elim) HB7.out (below_size HB7.out) ?_; intro w8 ho hb hg; have HO8 := am ho; have HB8 := am hb; clear ho hb hg))
 go_ret
 exact ⟨_, rfl, HO8.out, HB8.out⟩
def impl_copiedTones.f (l0 : List S49) : Option (List S49) := if l0.length ≤ 24 then some l0 else none
theorem impl_copiedTones.calls (A0 : Option Addr) (c0 : Nat) (l0 : List S49) (r : List S49) (w : World) (hr0 : Kd.C k49 w A0 l0.length l0) (hc0 : l0.length ≤ c0) (h : impl_copiedTones.f l0 = some r) :
  Calls Tryz.prog 107 #[.slice A0 l0.length c0] w fun e w' => ∃ v0_ : Value, e = .returned v0_ ∧ Kd.R k49 49 w' w.heap.size (fun _ => True) v0_ r ∧ Below w.heap.size w w' := by
 unfold impl_copiedTones.f at h
 split at h
 ·rename_i hl
  obtain rfl := Option.some.inj h
  exact copied_any A0 c0 l0 w hr0 hc0 hl
 ·exact absurd h (by simp)
/-! ### impl_Entry_copied: function 125 -/
def impl_Entry_copied.f (a0_0 : ByteArray) (a0_1 : Int) (l0_2 : List (S49)) : Option (ByteArray × Int × (List (S49))) := (impl_copiedTones.f l0_2).bind fun t152 => (some (a0_0, a0_1, t152))
set_option maxHeartbeats 8000000 in
set_option maxRecDepth 100000 in
theorem impl_Entry_copied.calls (a0_0 : ByteArray) (a0_1 : Int) (A0_2 : Option Addr) (c0_2 : Nat) (l0_2 : List (S49)) (r1 : ByteArray) (r2 : Int) (r3 : List (S49)) (w : World) (hr0_2 : Kd.C k49 w A0_2 l0_2.length l0_2) (hc0_2 : l0_2.length ≤ c0_2) (h : impl_Entry_copied.f a0_0 a0_1 l0_2 = some (r1, r2, r3)) :
  Calls Tryz.prog 125 #[.agg #[.string a0_0, .int .i64 a0_1, .slice A0_2 l0_2.length c0_2]] w fun e w' => ∃ v2_ : Value, e = .returned (.agg #[.string r1, .int .i64 r2, v2_]) ∧ Kd.R k49 49 w' w.heap.size (fun _ => True) v2_ r3 ∧ Below w.heap.size w w' := by
 have hu127 := Tryz.underlying127
 have HR0_2 := am hr0_2
 have HC0_2 := am hc0_2
 clear hr0_2 hc0_2
 have HB := am (Below.refl w.heap.size w)
 have H : ((impl_copiedTones.f l0_2).bind fun t152 => (some (a0_0, a0_1, t152))) = some (r1, r2, r3) := h
 clear h
 replace H := Option.bind_eq_some_iff.mp H
 obtain ⟨t152, A20, H⟩ := H
 replace H : (some (a0_0, a0_1, t152)) = some (r1, r2, r3) := H
 have A2 := am A20
 clear A20
 simp only [Option.some.injEq, Prod.mk.injEq] at H
 obtain ⟨rfl, rfl, rfl⟩ := H
 go_enter Tryz.func125, Tryz.ntmps125
 go_wp2_with (first | ((with_reducible refine gate_dst (N := 1) rfl ?_); refine box_event ?hg (N := 1) ?hd (cs := #[.string a0_0, .int .i64 a0_1, .slice A0_2 l0_2.length c0_2]) (t := 127) ?hr ?_; (case hd => rfl); (case hg => rfl); (case hr => first | (go_simp; done) | (go_simp; rfl)); intro gb150 hg w3 hbox hb; have n0_ := am (below_step (bu HB.out) hb); have n1_ := am (hbox); have n2_ := am ((by rw [hg]; exact (below_size (bu HB.out)) : w.heap.size ≤ gb150)); have n3_ := am ((by rw [hg]; exact (below_size (bu HB.out)) : w.heap.size ≤ gb150)); clear HB; have HB := n0_; have BK150 := n1_; have GW150 := n2_; have GE150 := n3_; clear n0_ n1_ n2_ n3_; clear hb hbox hg) | ((with_reducible refine gate_dst (N := 2) rfl ?_); refine box_event ?hg (N := 2) ?hd (cs := #[.string (⟨#[]⟩ : ByteArray), .int .i64 0, .slice none 0 0]) (t := 127) ?hr ?_; (case hd => rfl); (case hg => rfl); (case hr => first | (go_simp; done) | (go_simp; rfl)); intro gb151 hg w4 hbox hb; have n0_ := am (blk_below (g := gb150) (o := .cells #[.string a0_0, .int .i64 a0_1, .slice A0_2 l0_2.length c0_2] 127 (0, 0)) (gu BK150.out) hb); have n1_ := am (below_step (bu HB.out) hb); have n2_ := am (hbox); have n3_ := am ((by rw [hg]; exact (below_size (bu HB.out)) : w.heap.size ≤ gb151)); have n4_ := am ((by rw [hg]; exact (below_size (bu HB.out)) : w.heap.size ≤ gb151)); have n5_ := am ((by rw [hg]; exact Nat.ne_of_lt (blk_lt (g := gb150) (o := .cells #[.string a0_0, .int .i64 a0_1, .slice A0_2 l0_2.length c0_2] 127 (0, 0)) (gu BK150.out)) : gb150 ≠ gb151)); have n6_ := am ((by rw [hg]; exact Nat.ne_of_gt (blk_lt (g := gb150) (o := .cells #[.string a0_0, .int .i64 a0_1, .slice A0_2 l0_2.length c0_2] 127 (0, 0)) (gu BK150.out)) : gb151 ≠ gb150)); clear BK150; clear HB; have BK150 := n0_; have HB := n1_; have BK151 := n2_; have GW151 := n3_; have GE151 := n4_; have NB150_151 := n5_; have NB151_150 := n6_; clear n0_ n1_ n2_ n3_ n4_ n5_ n6_; clear hb hbox hg; have hnb5 := NB150_151.out; have hnc5 := NB151_150.out; have hcz6_0 : w4.cell? ⟨gb150, 0, none⟩ = some (.string a0_0) := (blk_cell BK150.out 0).trans rfl; have hcz6_1 : w4.cell? ⟨gb150, 1, none⟩ = some (.int .i64 a0_1) := (blk_cell BK150.out 1).trans rfl; have hcz6_2 : w4.cell? ⟨gb150, 2, none⟩ = some (.slice A0_2 l0_2.length c0_2) := (blk_cell BK150.out 2).trans rfl; have hfz6_0 := blk_frozen BK150.out 0; have hfz6_1 := blk_frozen BK150.out 1; have hfz6_2 := blk_frozen BK150.out 2) | ((with_reducible refine gate_callee (f := 107) rfl ?_); refine goesL_ (some 5) rfl rfl Tryz.func107 (by kernel_rfl) rfl #[.slice A0_2 l0_2.length c0_2] rfl (by (try simp only [List.map_toArray, List.map_cons, List.map_nil]); first | done | rfl | (simp only [List.length_drop, List.length_take]; rfl)) ?_; (with_reducible refine (impl_copiedTones.calls _ _ l0_2 t152 _ ?side1 ?side2 A2.out).mono ?_); (case side1 => repeat (first | exact (Kd.C_below HR0_2.out HB.out) | (with_reducible refine Kd.C_alloc ?_ _) | (with_reducible refine Kd.C_drewN ?_ _) | (with_reducible refine Kd.C_drew ?_))); (case side2 => exact HC0_2.out); rintro e w7 ⟨v153, rfl, ho0, hb⟩; refine ⟨_, rfl, ?_⟩; have n0_ := am (Kd.R_lower ho0 (below_size (bu HB.out))); have n1_ := am (blk_below (g := gb150) (o := .cells #[.string a0_0, .int .i64 a0_1, .slice A0_2 l0_2.length c0_2] 127 (0, 0)) (gu BK150.out) hb); have n2_ := am (blk_below (g := gb151) (o := .cells #[.string (⟨#[]⟩ : ByteArray), .int .i64 0, .slice none 0 0] 127 (0, 0)) (gu BK151.out) hb); have n3_ := am (below_step (bu HB.out) hb); clear BK150; clear BK151; clear HB; have HO154 := n0_; have BK150 := n1_; have BK151 := n2_; have HB := n3_; clear n0_ n1_ n2_ n3_; (try clear hb); (try clear hb2); (try clear hk); (try clear hi); (try clear ho0); obtain ⟨Ao8, co8, eo8⟩ := Kd.R_slice HO154.out; subst eo8; have hcz9_0 : w7.cell? ⟨gb150, 0, none⟩ = some (.string a0_0) := (blk_cell BK150.out 0).trans rfl; have hcz9_1 : w7.cell? ⟨gb150, 1, none⟩ = some (.int .i64 a0_1) := (blk_cell BK150.out 1).trans rfl; have hcz9_2 : w7.cell? ⟨gb150, 2, none⟩ = some (.slice A0_2 l0_2.length c0_2) := (blk_cell BK150.out 2).trans rfl; have hfz9_0 := blk_frozen BK150.out 0; have hfz9_1 := blk_frozen BK150.out 1; have hfz9_2 := blk_frozen BK150.out 2; have hcz10_0 : w7.cell? ⟨gb151, 0, none⟩ = some (.string (⟨#[]⟩ : ByteArray)) := (blk_cell BK151.out 0).trans rfl; have hcz10_1 : w7.cell? ⟨gb151, 1, none⟩ = some (.int .i64 0) := (blk_cell BK151.out 1).trans rfl; have hcz10_2 : w7.cell? ⟨gb151, 2, none⟩ = some (.slice none 0 0) := (blk_cell BK151.out 2).trans rfl; have hfz10_0 := blk_frozen BK151.out 0; have hfz10_1 := blk_frozen BK151.out 1; have hfz10_2 := blk_frozen BK151.out 2))
 refine bodyPost_ret (results_cell_row rfl _ _ gb151 127 #[.string a0_0, .int .i64 a0_1, .slice Ao8 t152.length co8] (0, 0) _ rfl (by (with_reducible repeat (first | refine blk_drewN ?_ _ | refine blk_drew ?_ | refine blk_alloc ?_ _)); refine blk_put (cs := #[.string a0_0, .int .i64 a0_1, .slice none 0 0]) ?_ 2 _ rfl; (with_reducible repeat (first | refine blk_drewN ?_ _ | refine blk_drew ?_ | refine blk_alloc ?_ _)); refine blk_put (cs := #[.string a0_0, .int .i64 0, .slice none 0 0]) ?_ 1 _ rfl; (with_reducible repeat (first | refine blk_drewN ?_ _ | refine blk_drew ?_ | refine blk_alloc ?_ _)); refine blk_put (cs := #[.string (⟨#[]⟩ : ByteArray), .int .i64 0, .slice none 0 0]) ?_ 0 _ rfl; (with_reducible repeat (first | refine blk_drewN ?_ _ | refine blk_drew ?_ | refine blk_alloc ?_ _)); refine blk_far ?_ NB151_150.out _; (with_reducible repeat (first | refine blk_drewN ?_ _ | refine blk_drew ?_ | refine blk_alloc ?_ _)); exact BK151.out) Tryz.underlying127 rfl (by kernel_rfl)) rfl ?_
 exact ⟨_, by first | rfl | (simp [errW_none, errW_some] <;> rfl) | (simp [*, errW_none, errW_some] <;> rfl), by (with_reducible repeat (first | apply Kd.R_alloc | apply Kd.R_drewN | apply Kd.R_drew)); exact Kd.R_mono (Kd.R_far (p := ⟨gb151, 2, none⟩) (Kd.R_far (p := ⟨gb151, 1, none⟩) (Kd.R_far (p := ⟨gb151, 0, none⟩) (Kd.R_far (p := ⟨gb150, 2, none⟩) (Kd.R_types (Kd.R_types HO154.out BK150.out (by decide)) BK151.out (by decide)) (fun _ hk => hk.1.2) (.slice Ao8 t152.length co8)) (fun _ hk => hk.2) (.string a0_0)) (fun _ hk => hk.2) (.int .i64 a0_1)) (fun _ hk => hk.2) (.slice Ao8 t152.length co8)) (fun _ hk => trivial), bu HB.out⟩

-- INNER impl_tonaryOf
-- INNER impl_Entry_string
-- INNER impl_tonary_find
-- NOT PRINTED: function 146 (impl_Entry_146)

-- NOT PRINTED: function 168 (impl_Entry_168)

-- NOT PRINTED: function 162 (impl_Entry_162)

-- NOT PRINTED: function 147 (impl_Entry_147)

-- INNER impl_tonary_list
-- INNER impl_differences
/-! ### impl_ToneSteps: function 113 -/
def impl_ToneSteps.f (a0_0 : Int) (a0_1 : Bool) (a1_0 : Int) (a1_1 : Bool) : Option (Int × Bool) := (impl_Tone_valid.f a0_0 a0_1).bind fun t163 => (if t163 = true then ((impl_Tone_valid.f a1_0 a1_1).bind fun t164 => (if t164 = true then (some (wrap64 (a1_0 - a0_0), true)) else (some (0, false)))) else (some (0, false)))
set_option maxHeartbeats 8000000 in
set_option maxRecDepth 100000 in
theorem impl_ToneSteps.calls (a0_0 : Int) (a0_1 : Bool) (a1_0 : Int) (a1_1 : Bool) (r1 : Int) (r2 : Bool) (w : World) (h : impl_ToneSteps.f a0_0 a0_1 a1_0 a1_1 = some (r1, r2)) :
  Calls Tryz.prog 113 #[.agg #[.int .i64 a0_0, .bool a0_1], .agg #[.int .i64 a1_0, .bool a1_1]] w fun e w' => e = .returned (.tuple #[.int .i64 r1, .bool r2]) ∧ Below w.heap.size w w' := by
 have hu49 := Tryz.underlying49
 have HB := am (Below.refl w.heap.size w)
 have H : ((impl_Tone_valid.f a0_0 a0_1).bind fun t163 => (if t163 = true then ((impl_Tone_valid.f a1_0 a1_1).bind fun t164 => (if t164 = true then (some (wrap64 (a1_0 - a0_0), true)) else (some (0, false)))) else (some (0, false)))) = some (r1, r2) := h
 clear h
 replace H := Option.bind_eq_some_iff.mp H
 obtain ⟨t163, A30, H⟩ := H
 replace H : (if t163 = true then ((impl_Tone_valid.f a1_0 a1_1).bind fun t164 => (if t164 = true then (some (wrap64 (a1_0 - a0_0), true)) else (some (0, false)))) else (some (0, false))) = some (r1, r2) := H
 have A3 := am A30
 clear A30
 by_cases c4 : t163 = true
 ·subst c4
  have H1 : ((impl_Tone_valid.f a1_0 a1_1).bind fun t164 => (if t164 = true then (some (wrap64 (a1_0 - a0_0), true)) else (some (0, false)))) = some (r1, r2) := by rw [if_pos rfl] at H; exact H
  clear H
  have H := H1
  clear H1
  replace H := Option.bind_eq_some_iff.mp H
  obtain ⟨t164, A50, H⟩ := H
  replace H : (if t164 = true then (some (wrap64 (a1_0 - a0_0), true)) else (some (0, false))) = some (r1, r2) := H
  have A5 := am A50
  clear A50
  by_cases c6 : t164 = true
  ·subst c6
   have H1 : (some (wrap64 (a1_0 - a0_0), true)) = some (r1, r2) := by rw [if_pos rfl] at H; exact H
   clear H
   have H := H1
   clear H1
   simp only [Option.some.injEq, Prod.mk.injEq] at H
   obtain ⟨rfl, rfl⟩ := H
   go_enter Tryz.func113, Tryz.ntmps113
   go_wp2_with (first | ((with_reducible refine gate_dst (N := 2) rfl ?_); refine box_event ?hg (N := 2) ?hd (cs := #[.int .i64 a0_0, .bool a0_1]) (t := 49) ?hr ?_; (case hd => rfl); (case hg => rfl); (case hr => first | (go_simp; done) | (go_simp; rfl)); intro gb161 hg w7 hbox hb; have n0_ := am (below_step (bu HB.out) hb); have n1_ := am (hbox); have n2_ := am ((by rw [hg]; exact (below_size (bu HB.out)) : w.heap.size ≤ gb161)); have n3_ := am ((by rw [hg]; exact (below_size (bu HB.out)) : w.heap.size ≤ gb161)); clear HB; have HB := n0_; have BK161 := n1_; have GW161 := n2_; have GE161 := n3_; clear n0_ n1_ n2_ n3_; clear hb hbox hg) | ((with_reducible refine gate_dst (N := 3) rfl ?_); refine box_event ?hg (N := 3) ?hd (cs := #[.int .i64 a1_0, .bool a1_1]) (t := 49) ?hr ?_; (case hd => rfl); (case hg => rfl); (case hr => first | (go_simp; done) | (go_simp; rfl)); intro gb162 hg w8 hbox hb; have n0_ := am (blk_below (g := gb161) (o := .cells #[.int .i64 a0_0, .bool a0_1] 49 (0, 0)) (gu BK161.out) hb); have n1_ := am (below_step (bu HB.out) hb); have n2_ := am (hbox); have n3_ := am ((by rw [hg]; exact (below_size (bu HB.out)) : w.heap.size ≤ gb162)); have n4_ := am ((by rw [hg]; exact (below_size (bu HB.out)) : w.heap.size ≤ gb162)); have n5_ := am ((by rw [hg]; exact Nat.ne_of_lt (blk_lt (g := gb161) (o := .cells #[.int .i64 a0_0, .bool a0_1] 49 (0, 0)) (gu BK161.out)) : gb161 ≠ gb162)); have n6_ := am ((by rw [hg]; exact Nat.ne_of_gt (blk_lt (g := gb161) (o := .cells #[.int .i64 a0_0, .bool a0_1] 49 (0, 0)) (gu BK161.out)) : gb162 ≠ gb161)); clear BK161; clear HB; have BK161 := n0_; have HB := n1_; have BK162 := n2_; have GW162 := n3_; have GE162 := n4_; have NB161_162 := n5_; have NB162_161 := n6_; clear n0_ n1_ n2_ n3_ n4_ n5_ n6_; clear hb hbox hg; have hnb9 := NB161_162.out; have hnc9 := NB162_161.out; have hcz10_0 : w8.cell? ⟨gb161, 0, none⟩ = some (.int .i64 a0_0) := (blk_cell BK161.out 0).trans rfl; have hcz10_1 : w8.cell? ⟨gb161, 1, none⟩ = some (.bool a0_1) := (blk_cell BK161.out 1).trans rfl; have hfz10_0 := blk_frozen BK161.out 0; have hfz10_1 := blk_frozen BK161.out 1) | ((with_reducible refine gate_callee (f := 36) rfl ?_); refine goesL_ (some 7) rfl rfl Tryz.func36 (by kernel_rfl) rfl #[.agg #[.int .i64 a0_0, .bool a0_1]] rfl (by (try simp only [List.map_toArray, List.map_cons, List.map_nil]); first | done | rfl | (simp only [List.length_drop, List.length_take]; rfl)) ?_; (with_reducible refine (impl_Tone_valid.calls a0_0 a0_1 true _ A3.out).mono ?_); rintro e w11 ⟨rfl, hb⟩; refine ⟨_, rfl, ?_⟩; have n0_ := am (blk_below (g := gb161) (o := .cells #[.int .i64 a0_0, .bool a0_1] 49 (0, 0)) (gu BK161.out) hb); have n1_ := am (blk_below (g := gb162) (o := .cells #[.int .i64 a1_0, .bool a1_1] 49 (0, 0)) (gu BK162.out) hb); have n2_ := am (below_step (bu HB.out) hb); clear BK161; clear BK162; clear HB; have BK161 := n0_; have BK162 := n1_; have HB := n2_; clear n0_ n1_ n2_; (try clear hb); (try clear hb2); (try clear hk); (try clear hi); have hcz12_0 : w11.cell? ⟨gb162, 0, none⟩ = some (.int .i64 a1_0) := (blk_cell BK162.out 0).trans rfl; have hcz12_1 : w11.cell? ⟨gb162, 1, none⟩ = some (.bool a1_1) := (blk_cell BK162.out 1).trans rfl; have hfz12_0 := blk_frozen BK162.out 0; have hfz12_1 := blk_frozen BK162.out 1) | (go_at_call 36; (with_reducible refine (impl_Tone_valid.calls a1_0 a1_1 true _ A5.out).mono ?_); rintro e w13 ⟨rfl, hb⟩; have n0_ := am (blk_below (g := gb161) (o := .cells #[.int .i64 a0_0, .bool a0_1] 49 (0, 0)) (gu BK161.out) hb); have n1_ := am (blk_below (g := gb162) (o := .cells #[.int .i64 a1_0, .bool a1_1] 49 (0, 0)) (gu BK162.out) hb); have n2_ := am (below_step (bu HB.out) hb); clear BK161; clear BK162; clear HB; have BK161 := n0_; have BK162 := n1_; have HB := n2_; clear n0_ n1_ n2_; (try clear hb); (try clear hb2); (try clear hk); (try clear hi); have hcz14_0 : w13.cell? ⟨gb162, 0, none⟩ = some (.int .i64 a1_0) := (blk_cell BK162.out 0).trans rfl; have hcz14_1 : w13.cell? ⟨gb162, 1, none⟩ = some (.bool a1_1) := (blk_cell BK162.out 1).trans rfl; have hfz14_0 := blk_frozen BK162.out 0; have hfz14_1 := blk_frozen BK162.out 1; have hcz15_0 : w13.cell? ⟨gb161, 0, none⟩ = some (.int .i64 a0_0) := (blk_cell BK161.out 0).trans rfl; have hcz15_1 : w13.cell? ⟨gb161, 1, none⟩ = some (.bool a0_1) := (blk_cell BK161.out 1).trans rfl; have hfz15_0 := blk_frozen BK161.out 0; have hfz15_1 := blk_frozen BK161.out 1))
   go_ret2
   exact ⟨by first | rfl | (simp [errW_none, errW_some] <;> rfl) | (simp [*, errW_none, errW_some] <;> rfl), bu HB.out⟩
  ·replace c6 := Bool.eq_false_iff.mpr c6
   subst c6
   have H1 : (some (0, false)) = some (r1, r2) := by rw [if_neg (show ¬ (false = true) by decide)] at H; exact H
   clear H
   have H := H1
   clear H1
   simp only [Option.some.injEq, Prod.mk.injEq] at H
   obtain ⟨rfl, rfl⟩ := H
   go_enter Tryz.func113, Tryz.ntmps113
   go_wp2_with (first | ((with_reducible refine gate_dst (N := 2) rfl ?_); refine box_event ?hg (N := 2) ?hd (cs := #[.int .i64 a0_0, .bool a0_1]) (t := 49) ?hr ?_; (case hd => rfl); (case hg => rfl); (case hr => first | (go_simp; done) | (go_simp; rfl)); intro gb161 hg w16 hbox hb; have n0_ := am (below_step (bu HB.out) hb); have n1_ := am (hbox); have n2_ := am ((by rw [hg]; exact (below_size (bu HB.out)) : w.heap.size ≤ gb161)); have n3_ := am ((by rw [hg]; exact (below_size (bu HB.out)) : w.heap.size ≤ gb161)); clear HB; have HB := n0_; have BK161 := n1_; have GW161 := n2_; have GE161 := n3_; clear n0_ n1_ n2_ n3_; clear hb hbox hg) | ((with_reducible refine gate_dst (N := 3) rfl ?_); refine box_event ?hg (N := 3) ?hd (cs := #[.int .i64 a1_0, .bool a1_1]) (t := 49) ?hr ?_; (case hd => rfl); (case hg => rfl); (case hr => first | (go_simp; done) | (go_simp; rfl)); intro gb162 hg w17 hbox hb; have n0_ := am (blk_below (g := gb161) (o := .cells #[.int .i64 a0_0, .bool a0_1] 49 (0, 0)) (gu BK161.out) hb); have n1_ := am (below_step (bu HB.out) hb); have n2_ := am (hbox); have n3_ := am ((by rw [hg]; exact (below_size (bu HB.out)) : w.heap.size ≤ gb162)); have n4_ := am ((by rw [hg]; exact (below_size (bu HB.out)) : w.heap.size ≤ gb162)); have n5_ := am ((by rw [hg]; exact Nat.ne_of_lt (blk_lt (g := gb161) (o := .cells #[.int .i64 a0_0, .bool a0_1] 49 (0, 0)) (gu BK161.out)) : gb161 ≠ gb162)); have n6_ := am ((by rw [hg]; exact Nat.ne_of_gt (blk_lt (g := gb161) (o := .cells #[.int .i64 a0_0, .bool a0_1] 49 (0, 0)) (gu BK161.out)) : gb162 ≠ gb161)); clear BK161; clear HB; have BK161 := n0_; have HB := n1_; have BK162 := n2_; have GW162 := n3_; have GE162 := n4_; have NB161_162 := n5_; have NB162_161 := n6_; clear n0_ n1_ n2_ n3_ n4_ n5_ n6_; clear hb hbox hg; have hnb18 := NB161_162.out; have hnc18 := NB162_161.out; have hcz19_0 : w17.cell? ⟨gb161, 0, none⟩ = some (.int .i64 a0_0) := (blk_cell BK161.out 0).trans rfl; have hcz19_1 : w17.cell? ⟨gb161, 1, none⟩ = some (.bool a0_1) := (blk_cell BK161.out 1).trans rfl; have hfz19_0 := blk_frozen BK161.out 0; have hfz19_1 := blk_frozen BK161.out 1) | ((with_reducible refine gate_callee (f := 36) rfl ?_); refine goesL_ (some 7) rfl rfl Tryz.func36 (by kernel_rfl) rfl #[.agg #[.int .i64 a0_0, .bool a0_1]] rfl (by (try simp only [List.map_toArray, List.map_cons, List.map_nil]); first | done | rfl | (simp only [List.length_drop, List.length_take]; rfl)) ?_; (with_reducible refine (impl_Tone_valid.calls a0_0 a0_1 true _ A3.out).mono ?_); rintro e w20 ⟨rfl, hb⟩; refine ⟨_, rfl, ?_⟩; have n0_ := am (blk_below (g := gb161) (o := .cells #[.int .i64 a0_0, .bool a0_1] 49 (0, 0)) (gu BK161.out) hb); have n1_ := am (blk_below (g := gb162) (o := .cells #[.int .i64 a1_0, .bool a1_1] 49 (0, 0)) (gu BK162.out) hb); have n2_ := am (below_step (bu HB.out) hb); clear BK161; clear BK162; clear HB; have BK161 := n0_; have BK162 := n1_; have HB := n2_; clear n0_ n1_ n2_; (try clear hb); (try clear hb2); (try clear hk); (try clear hi); have hcz21_0 : w20.cell? ⟨gb162, 0, none⟩ = some (.int .i64 a1_0) := (blk_cell BK162.out 0).trans rfl; have hcz21_1 : w20.cell? ⟨gb162, 1, none⟩ = some (.bool a1_1) := (blk_cell BK162.out 1).trans rfl; have hfz21_0 := blk_frozen BK162.out 0; have hfz21_1 := blk_frozen BK162.out 1) | (go_at_call 36; (with_reducible refine (impl_Tone_valid.calls a1_0 a1_1 false _ A5.out).mono ?_); rintro e w22 ⟨rfl, hb⟩; have n0_ := am (blk_below (g := gb161) (o := .cells #[.int .i64 a0_0, .bool a0_1] 49 (0, 0)) (gu BK161.out) hb); have n1_ := am (blk_below (g := gb162) (o := .cells #[.int .i64 a1_0, .bool a1_1] 49 (0, 0)) (gu BK162.out) hb); have n2_ := am (below_step (bu HB.out) hb); clear BK161; clear BK162; clear HB; have BK161 := n0_; have BK162 := n1_; have HB := n2_; clear n0_ n1_ n2_; (try clear hb); (try clear hb2); (try clear hk); (try clear hi)))
   go_ret2
   exact ⟨by first | rfl | (simp [errW_none, errW_some] <;> rfl) | (simp [*, errW_none, errW_some] <;> rfl), bu HB.out⟩
 ·replace c4 := Bool.eq_false_iff.mpr c4
  subst c4
  have H1 : (some (0, false)) = some (r1, r2) := by rw [if_neg (show ¬ (false = true) by decide)] at H; exact H
  clear H
  have H := H1
  clear H1
  simp only [Option.some.injEq, Prod.mk.injEq] at H
  obtain ⟨rfl, rfl⟩ := H
  go_enter Tryz.func113, Tryz.ntmps113
  go_wp2_with (first | ((with_reducible refine gate_dst (N := 2) rfl ?_); refine box_event ?hg (N := 2) ?hd (cs := #[.int .i64 a0_0, .bool a0_1]) (t := 49) ?hr ?_; (case hd => rfl); (case hg => rfl); (case hr => first | (go_simp; done) | (go_simp; rfl)); intro gb161 hg w23 hbox hb; have n0_ := am (below_step (bu HB.out) hb); have n1_ := am (hbox); have n2_ := am ((by rw [hg]; exact (below_size (bu HB.out)) : w.heap.size ≤ gb161)); have n3_ := am ((by rw [hg]; exact (below_size (bu HB.out)) : w.heap.size ≤ gb161)); clear HB; have HB := n0_; have BK161 := n1_; have GW161 := n2_; have GE161 := n3_; clear n0_ n1_ n2_ n3_; clear hb hbox hg) | ((with_reducible refine gate_dst (N := 3) rfl ?_); refine box_event ?hg (N := 3) ?hd (cs := #[.int .i64 a1_0, .bool a1_1]) (t := 49) ?hr ?_; (case hd => rfl); (case hg => rfl); (case hr => first | (go_simp; done) | (go_simp; rfl)); intro gb162 hg w24 hbox hb; have n0_ := am (blk_below (g := gb161) (o := .cells #[.int .i64 a0_0, .bool a0_1] 49 (0, 0)) (gu BK161.out) hb); have n1_ := am (below_step (bu HB.out) hb); have n2_ := am (hbox); have n3_ := am ((by rw [hg]; exact (below_size (bu HB.out)) : w.heap.size ≤ gb162)); have n4_ := am ((by rw [hg]; exact (below_size (bu HB.out)) : w.heap.size ≤ gb162)); have n5_ := am ((by rw [hg]; exact Nat.ne_of_lt (blk_lt (g := gb161) (o := .cells #[.int .i64 a0_0, .bool a0_1] 49 (0, 0)) (gu BK161.out)) : gb161 ≠ gb162)); have n6_ := am ((by rw [hg]; exact Nat.ne_of_gt (blk_lt (g := gb161) (o := .cells #[.int .i64 a0_0, .bool a0_1] 49 (0, 0)) (gu BK161.out)) : gb162 ≠ gb161)); clear BK161; clear HB; have BK161 := n0_; have HB := n1_; have BK162 := n2_; have GW162 := n3_; have GE162 := n4_; have NB161_162 := n5_; have NB162_161 := n6_; clear n0_ n1_ n2_ n3_ n4_ n5_ n6_; clear hb hbox hg; have hnb25 := NB161_162.out; have hnc25 := NB162_161.out; have hcz26_0 : w24.cell? ⟨gb161, 0, none⟩ = some (.int .i64 a0_0) := (blk_cell BK161.out 0).trans rfl; have hcz26_1 : w24.cell? ⟨gb161, 1, none⟩ = some (.bool a0_1) := (blk_cell BK161.out 1).trans rfl; have hfz26_0 := blk_frozen BK161.out 0; have hfz26_1 := blk_frozen BK161.out 1) | ((with_reducible refine gate_callee (f := 36) rfl ?_); refine goesL_ (some 7) rfl rfl Tryz.func36 (by kernel_rfl) rfl #[.agg #[.int .i64 a0_0, .bool a0_1]] rfl (by (try simp only [List.map_toArray, List.map_cons, List.map_nil]); first | done | rfl | (simp only [List.length_drop, List.length_take]; rfl)) ?_; (with_reducible refine (impl_Tone_valid.calls a0_0 a0_1 false _ A3.out).mono ?_); rintro e w27 ⟨rfl, hb⟩; refine ⟨_, rfl, ?_⟩; have n0_ := am (blk_below (g := gb161) (o := .cells #[.int .i64 a0_0, .bool a0_1] 49 (0, 0)) (gu BK161.out) hb); have n1_ := am (blk_below (g := gb162) (o := .cells #[.int .i64 a1_0, .bool a1_1] 49 (0, 0)) (gu BK162.out) hb); have n2_ := am (below_step (bu HB.out) hb); clear BK161; clear BK162; clear HB; have BK161 := n0_; have BK162 := n1_; have HB := n2_; clear n0_ n1_ n2_; (try clear hb); (try clear hb2); (try clear hk); (try clear hi)))
  go_ret2
  exact ⟨by first | rfl | (simp [errW_none, errW_some] <;> rfl) | (simp [*, errW_none, errW_some] <;> rfl), bu HB.out⟩

/-! ### MelodySteps, by hand -/
theorem goesW_ {P : Program} {ops : Array Oper} {Q : Exit → Act → World → Prop} {oi : Oper} {N : Option Tmp} {a : Act} {w : World} {K : Act → World → Prop} {f : FuncId} {fn : Func} {az : Array Operand} {ts : Array TypeId} (hf : P.funcs[f]? = some fn) (hname : (fn.name == "runtime.NumGoroutine") = false) (hb : fn.body.isSome = true) (s : Tmp) (hv : a.eval (.tmp s) = .func (.func f) #[] #[]) (args : Array Value)
  (hw : Region.wanted oi (yielded ops a.tmps) = true) (hN : oi.dst = N) (hop : oi.op = .call { callee := .value (.tmp s), args := az, argTypes := ts }) (hargs : az.map a.eval = args)
  (h : Calls P f args w fun e w' => ∃ v, e = .returned v ∧ K (a.put N v) w') : if Region.wanted oi (yielded ops a.tmps) = true then Oper.wp P oi a w K Q else K (a.put N undef) w := by
 refine call_ f args hw hN ?_ h
 have he := enters_ hf hname hb args w
 unfold execOp
 simp [hop, resolve, hv, Deferred.ofValue, invoke, hargs, he]
def stepsOf : List S49 → List Int
 | [] => []
 | t :: r => match r with
  | [] => []
  | u :: _ => (u.f0 - t.f0) :: stepsOf r
theorem stepsOf_len : ∀ l : List S49, (stepsOf l).length = l.length - 1
 | [] => rfl
 | [_] => rfl
 | t :: u :: r => by
  rw [stepsOf, List.length_cons, stepsOf_len (u :: r)]
  simp
theorem stepsOf_snoc : ∀ (l : List S49) (t u : S49), stepsOf (l ++ [t] ++ [u]) = stepsOf (l ++ [t]) ++ [u.f0 - t.f0]
 | [], t, u => rfl
 | [x], t, u => rfl
 | x :: y :: r, t, u => by
  have ih := stepsOf_snoc (y :: r) t u
  simp only [List.cons_append] at ih ⊢
  rw [stepsOf, stepsOf, ih, List.cons_append]
theorem ms_rdMt (l : List S49) (i : Nat) (h : i < l.length) : rd_T49 l (i : Int) = l[i] := by
 simp [rd_T49, List.getD_eq_getElem?_getD, h]
theorem ms_l0 : ∀ (k : Nat) (l : List S49) (i : Nat), i ≤ l.length → l.length ≤ 24 → impl_MelodyValid.l0 k l (l.length : Int) (i : Int) = some true → ∀ j (h0 : j < l.length), i ≤ j → impl_Tone_valid.f l[j].f0 l[j].f1 = some true := by
 intro k
 induction k with
 | zero => intro l i hi hl h; simp [impl_MelodyValid.l0] at h
 | succ k ih =>
  intro l i hi hl h j h0 hij
  have hlt : i < l.length := by omega
  simp only [impl_MelodyValid.l0] at h
  rw [if_pos (by omega), if_pos (by omega), if_pos (by omega), ms_rdMt l i hlt] at h
  obtain ⟨v, hv, h⟩ := Option.bind_eq_some_iff.mp h
  cases v with
  | false => rw [if_neg (by decide)] at h; exact absurd h (by simp)
  | true =>
   rw [if_pos rfl, show wrap64 ((i : Int) + 1) = ((i + 1 : Nat) : Int) by unfold wrap64; omega] at h
   by_cases e : j = i
   ·subst e
    exact hv
   ·exact ih l (i + 1) (by omega) hl h j h0 (by omega)
theorem ms_facts {k : Nat} {l : List S49} (h : impl_MelodyValid.f k l = some true) : l.length ≤ 24 ∧ ∀ t ∈ l, impl_Tone_valid.f t.f0 t.f1 = some true := by
 unfold impl_MelodyValid.f at h
 by_cases hl : (l.length : Int) > 24
 ·rw [if_pos hl] at h
  exact absurd h (by simp)
 ·rw [if_neg hl] at h
  refine ⟨by omega, fun t ht => ?_⟩
  obtain ⟨j, hj, rfl⟩ := List.getElem_of_mem ht
  exact ms_l0 k l 0 (Nat.zero_le _) (by omega) h j hj (Nat.zero_le _)
theorem ms_bd {s : Int} {b : Bool} (h : impl_Tone_valid.f s b = some true) : 0 ≤ s ∧ s ≤ 20 := by
 unfold impl_Tone_valid.f at h
 by_cases h0 : 0 ≤ s
 ·by_cases h1 : s ≤ 20
  ·exact ⟨h0, h1⟩
  ·simp [h0, h1] at h
 ·simp [h0] at h
theorem ms_step {t u : S49} (ht : impl_Tone_valid.f t.f0 t.f1 = some true) (hu : impl_Tone_valid.f u.f0 u.f1 = some true) : impl_ToneSteps.f t.f0 t.f1 u.f0 u.f1 = some (u.f0 - t.f0, true) := by
 have h1 := ms_bd ht
 have h2 := ms_bd hu
 unfold impl_ToneSteps.f
 rw [ht, Option.bind_some, if_pos rfl, hu, Option.bind_some, if_pos rfl, show wrap64 (u.f0 - t.f0) = u.f0 - t.f0 by unfold wrap64; omega]
theorem ms_empty {α : Type} (d : Kd α) (e : Nat) {W : World} {g base : Nat} (ok : Nat → Prop) (hok : ok g) (h : W.heap[g]? = some (.cells #[] e (0, 0))) (hb : base ≤ g) : d.R e W base ok (.slice (some ⟨g, 0, none⟩) 0 0) ([] : List α) :=
 ⟨fun k hk => by
  simp [Value.ownBlock] at hk
  subst hk
  exact hok, [], ⟨by simp, .inr ⟨g, 0, #[], rfl, hb, h, Nat.le_refl _, by simp [maxLen], by simp, by simp⟩⟩, Reps.none _ _⟩
theorem infoSI : (Tryz.prog.info? 3).map (fun i => (i.zero, i.size, i.bytes)) = some (some (.int .i64 0), 1, 8) := by kernel_rfl
theorem IsList.grown_i {w w1 : World} {base : Nat} {ok : Nat → Prop} {v : Value} {xs : List Int} (HO : Kd.R (Kd.int .i64) 3 w base ok v xs) (hg : w.grownBy w1 v.ownBlock) : ∀ {ts : List S49} {p : Option Addr}, IsList w p ts → IsList w1 p ts
 | [], _, h => h
 | t :: ts, p, h => by
  obtain ⟨g, q, rfl, hk, hr⟩ := h
  exact ⟨g, q, rfl, blk_grown hk hg (Kd.R_ne HO hk (by decide)), IsList.grown_i HO hg hr⟩
set_option maxHeartbeats 8000000 in
set_option maxRecDepth 100000 in
theorem steps_any (n : Nat) (A0 : Option Addr) (c0 : Nat) (l0 : List S49) (w : World) (hr0 : Kd.C k49 w A0 l0.length l0) (hc0 : l0.length ≤ c0) (hv : impl_MelodyValid.f n l0 = some true) (hne : 0 < l0.length) :
  Calls Tryz.prog 112 #[.slice A0 l0.length c0, .func (.func 113) #[] #[]] w fun e w' => ∃ v0_ : Value, e = .returned v0_ ∧ Kd.R (Kd.int .i64) 3 w' w.heap.size (fun _ => True) v0_ (stepsOf l0) ∧ Below w.heap.size w w' := by
 obtain ⟨hl, hva⟩ := ms_facts hv
 have HR0 := am hr0
 have HC0 := am hc0
 have HV := am hv
 have HVA := am hva
 have HL := am hl
 have HNE := am hne
 have b0 : ((l0.length : Int) == 0) = false := beq_eq_false_iff_ne.2 (by omega)
 clear hr0 hc0 hv hva hl hne
 have HB0 := am (below_alloc (Below.refl w.heap.size w) (.cells #[] 3))
 have HZ0 := am (blk_new w (.cells #[] 3))
 go_enter Tryz.func112, Tryz.ntmps112
 go_wp2_with fail
 refine (impl_MelodyValid.calls n A0 c0 l0 true _ (Kd.C_below HR0.out HB0.out) HC0.out HV.out).mono ?_
 rintro e w1 ⟨rfl, hb⟩
 have HB1 := am (below_step HB0.out hb)
 have HZ1 := am (blk_below HZ0.out hb)
 clear hb HB0 HZ0
 go_wp2_with fail
 refine (linked_any A0 c0 l0 _ (Kd.C_below HR0.out HB1.out) HC0.out (by have := HL.out; omega)).mono ?_
 rintro e w2 ⟨p, rfl, hL, hb⟩
 have HB2 := am (below_step HB1.out hb)
 have HZ2 := am (blk_below HZ1.out hb)
 have HL2 := am hL
 clear hb hL HB1 HZ1
 go_wp2_with fail
 go_loopg [5, 6] l0.length (fun kq v5 v6 w' => ∃ (i : Nat) (p : Option Addr), v6 = .pointer p ∧ Aside0 (i < l0.length ∧ kq = l0.length - i) ∧ Aside0 (IsList w' p (l0.drop i)) ∧ Aside0 (Kd.R (Kd.int .i64) 3 w' w.heap.size (fun _ => True) v5 (stepsOf (l0.take (i + 1)))) ∧ Aside0 (Below w.heap.size w w'))
 case atStart =>
  refine ⟨0, p, rfl, ⟨HNE.out, by omega⟩, ⟨by simpa using HL2.out⟩, ⟨?_⟩, HB2⟩
  rw [show stepsOf (l0.take (0 + 1)) = [] by
   cases l0 with
   | nil => rfl
   | cons t r => rfl]
  exact ms_empty _ _ _ trivial HZ2.out (Nat.le_refl _)
 case round =>
  obtain ⟨i, p', rfl, HI, HLS, HO, HB⟩ := hrel
  clear HB2 HZ2 HL2
  have hin : i < l0.length := HI.out.1
  obtain ⟨S, hS⟩ : ∃ S, S = stepsOf (l0.take (i + 1)) := ⟨_, rfl⟩
  have hO := HO.out
  rw [← hS] at hO
  obtain ⟨A5, c5, rfl⟩ := Kd.R_slice hO
  have HO := am hO
  have HSE := am hS
  obtain ⟨t, ht⟩ : ∃ t, t = l0[i] := ⟨_, rfl⟩
  have hL := HLS.out
  rw [List.drop_eq_getElem_cons hin, ← ht] at hL
  obtain ⟨g, q, rfl, hg, hR⟩ := hL
  have HG := am hg
  by_cases hlast : i + 1 < l0.length
  ·obtain ⟨u, hu⟩ : ∃ u, u = l0[i + 1] := ⟨_, rfl⟩
   rw [List.drop_eq_getElem_cons hlast, ← hu] at hR
   have HR := am hR
   obtain ⟨g2, q2, rfl, hg2, hR2⟩ := hR
   have HU := am hg2
   have kq2 : wr.cell? ⟨g, 2, none⟩ = some (.pointer (some ⟨g2, 0, none⟩)) := blk_cell hg 2
   have HST := am (ms_step (HVA.out t (by rw [ht]; exact List.getElem_mem hin)) (HVA.out u (by rw [hu]; exact List.getElem_mem hlast)))
   have HS2 := am (show stepsOf (l0.take (i + 1 + 1)) = S ++ [u.f0 - t.f0] by
    rw [hS, ht, hu, List.take_succ_eq_append_getElem hlast, List.take_succ_eq_append_getElem hin, stepsOf_snoc])
   have HD2 := am (show l0.drop (i + 1) = u :: l0.drop (i + 1 + 1) by rw [List.drop_eq_getElem_cons hlast, ← hu])
   have HSL := am (show S.length + 1 ≤ 24 by rw [hS, stepsOf_len, List.length_take]; have := HL.out; omega)
   clear hS hO ht hu hg hg2 hR2 hin hlast HLS
   go_wp2_with fail
   have HG1 := am (blk_drew HG.out)
   have HU1 := am (blk_drew HU.out)
   have HR1 := am (IsList.below (below_drew1 (Below.refl _ _)) HR.out)
   have HO1 := am (Kd.R_drew HO.out)
   have HB1 := am (below_drew1 HB.out)
   refine start_ (n := 18) (S := fun w' => w'.cell? ⟨g, 0, none⟩ = some (.int .i64 t.f0) ∧ w'.cell? ⟨g, 1, none⟩ = some (.bool t.f1) ∧ w'.cell? ⟨g, 2, none⟩ = some (.pointer (some ⟨g2, 0, none⟩)) ∧ w'.cell? ⟨g2, 0, none⟩ = some (.int .i64 u.f0) ∧ w'.cell? ⟨g2, 1, none⟩ = some (.bool u.f1)) (ds := []) #[F,F,F,F,F,F,F,F,F,F,F,F,F,F,F,F,F,F] (by kernel_rfl) rfl rfl ⟨blk_cell HG1.out 0, blk_cell HG1.out 1, blk_cell HG1.out 2, blk_cell HU1.out 0, blk_cell HU1.out 1⟩ (fun hHeld => ?_)
   clear HG HU HR HO HB kq2
   generalize wr.drew = wd at HG1 HU1 HR1 HO1 HB1 hHeld ⊢
   refine pz 0 (some 31) #[T,F,F,F,F,F,F,F,F,F,F,F,F,F,F,F,F,F] (by kernel_rfl) (h := ?_)
   refine pz 1 (some 32) #[T,T,F,F,F,F,F,F,F,F,F,F,F,F,F,F,F,F] (by kernel_rfl) (h := ?_)
   refine pz 2 (some 33) #[T,T,T,F,F,F,F,F,F,F,F,F,F,F,F,F,F,F] (by kernel_rfl) (h := ?_)
   refine pz 3 (some 34) #[T,T,T,T,F,F,F,F,F,F,F,F,F,F,F,F,F,F] (by kernel_rfl) (h := ?_)
   refine pz 5 (some 36) #[T,T,T,T,F,T,F,F,F,F,F,F,F,F,F,F,F,F] (by kernel_rfl) (h := ?_)
   refine pz 6 (some 37) #[T,T,T,T,F,T,T,F,F,F,F,F,F,F,F,F,F,F] (by kernel_rfl) (h := ?_)
   refine pz 7 (some 38) #[T,T,T,T,F,T,T,T,F,F,F,F,F,F,F,F,F,F] (by kernel_rfl) (h := ?_)
   refine tz hHeld 4 (some 35) #[T,T,T,T,T,T,T,T,F,F,F,F,F,F,F,F,F,F] (by kernel_rfl) (h := ?_)
   refine tz hHeld 8 (some 39) #[T,T,T,T,T,T,T,T,T,F,F,F,F,F,F,F,F,F] (by kernel_rfl) (h := ?_)
   refine pz 9 (some 40) #[T,T,T,T,T,T,T,T,T,T,F,F,F,F,F,F,F,F] (by kernel_rfl) (h := ?_)
   refine pz 10 (some 41) #[T,T,T,T,T,T,T,T,T,T,T,F,F,F,F,F,F,F] (by kernel_rfl) (h := ?_)
   refine tz hHeld 11 (some 42) #[T,T,T,T,T,T,T,T,T,T,T,T,F,F,F,F,F,F] (by kernel_rfl) (h := ?_)
   refine one_ (i := 12) (N := some 43) #[T,T,T,T,T,T,T,T,T,T,T,T,T,F,F,F,F,F] rfl rfl (by kernel_rfl) (by decide) (fun K hK => ?_)
   refine goesW_ Tryz.func113 (by kernel_rfl) rfl 31 rfl #[.agg #[.int .i64 t.f0, .bool t.f1], .agg #[.int .i64 u.f0, .bool u.f1]] (by rfl) rfl rfl (by (try simp only [List.map_toArray, List.map_cons, List.map_nil]); first | done | rfl) ?_
   with_reducible refine (impl_ToneSteps.calls t.f0 t.f1 u.f0 u.f1 (u.f0 - t.f0) true _ HST.out).mono ?_
   rintro e we ⟨rfl, hb⟩
   refine ⟨_, rfl, ?_⟩
   have HG2 := am (blk_below HG1.out hb)
   have HU2 := am (blk_below HU1.out hb)
   have HR2 := am (IsList.below hb HR1.out)
   have HO2 := am (Kd.R_below HO1.out hb)
   have HB2 := am (below_step HB1.out hb)
   clear HG1 HU1 HR1 HO1 HB1 hb
   refine hK.out _ _ ⟨blk_cell HG2.out 0, blk_cell HG2.out 1, blk_cell HG2.out 2, blk_cell HU2.out 0, blk_cell HU2.out 1⟩ (fun hHeld => ?_)
   clear hK K
   refine norm_ (a' := ?_) ?_ ?_
   rotate_left
   ·show Act.put _ (some 43) _ = _
    simp only [Act.put, sA, sZ, sS, i64_w, i32_w]
    rfl
   refine pz 13 (some 30) #[T,T,T,T,T,T,T,T,T,T,T,T,T,T,F,F,F,F] (by kernel_rfl) (h := ?_)
   refine pz 14 (some 44) #[T,T,T,T,T,T,T,T,T,T,T,T,T,T,T,F,F,F] (by kernel_rfl) (h := ?_)
   refine pz 15 (some 45) #[T,T,T,T,T,T,T,T,T,T,T,T,T,T,T,T,F,F] (by kernel_rfl) (h := ?_)
   refine pz 16 (some 7) #[T,T,T,T,T,T,T,T,T,T,T,T,T,T,T,T,T,F] (by kernel_rfl) (h := ?_)
   refine pz 17 (some 8) #[T,T,T,T,T,T,T,T,T,T,T,T,T,T,T,T,T,T] (by kernel_rfl) (h := ?_)
   refine done_ (by kernel_rfl) ?_
   clear hHeld
   go_upto_region 9 with fail
   go_wp2_with (first | ((with_reducible refine gate_builtin (b := .append) (xs := #[.tmp 47, .tmp 49]) rfl ?_); at_builtin; refine Kd.R_append (Kd.int .i64) (w0 := w) w.heap.size rfl (.tmp 47) (.tmp 49) 35 3 (.int .i64 0) 8 rfl Tryz.underlying35 infoSI rfl (by decide) (by omega) (.slice A5 S.length c5) S (u.f0 - t.f0) [.int .i64 (u.f0 - t.f0)] (fun _ => True) (fun _ => False) rfl rfl ?aP (fun _ hk => hk.elim) ?aF ?aO ?aB ?aS ?aL ?_; (case aP => exact rfl); (case aB => exact HB2.out); (case aF => exact (fun _ _ => trivial)); (case aO => exact HO2.out); (case aS => exact (below_size HB2.out)); (case aL => have := HSL.out; omega); intro v1 w6 ho hb hg hat; have HO3 := am ho; have HB3 := am hb; have HG3 := am (blk_grown HG2.out hg (Kd.R_ne HO2.out HG2.out (by decide))); have HR3 := am (IsList.grown_i HO2.out hg HR2.out); have kq3 : w6.cell? ⟨g, 2, none⟩ = some (.pointer (some ⟨g2, 0, none⟩)) := blk_cell HG3.out 2; clear ho hb hg hat HO2 HB2 HG2 HR2 HU2))
   go_roundg (l0.length - (i + 1))
   case measure => have := HI.out; have := HD2.out; have := congrArg List.length this; simp at this; omega
   case rel =>
    refine ⟨i + 1, some ⟨g2, 0, none⟩, rfl, ⟨?_, rfl⟩, ⟨by rw [HD2.out]; exact HR3.out⟩, ⟨by rw [HS2.out]; exact HO3.out⟩, HB3⟩
    have := congrArg List.length HD2.out
    rw [List.length_drop, List.length_cons] at this
    omega
  ·have e0 : l0.drop (i + 1) = [] := List.drop_eq_nil_of_le (by omega)
   rw [e0] at hR
   obtain rfl : q = none := hR
   have kq2 : wr.cell? ⟨g, 2, none⟩ = some (.pointer none) := blk_cell hg 2
   have HE := am (show stepsOf l0 = S by rw [hS, List.take_of_length_le (by omega)])
   clear hS hO ht hg hin hlast HLS e0
   go_wp2_with fail
   go_ret
   exact ⟨_, rfl, by rw [HE.out]; exact HO.out, HB.out⟩
def impl_MelodySteps.f (n : Nat) (l0 : List S49) : Option (List Int) := (impl_MelodyValid.f n l0).bind fun ok => if ok = true ∧ 0 < l0.length then some (stepsOf l0) else none
theorem impl_MelodySteps.mono : ∀ a0 n, LeO (impl_MelodySteps.f n a0) (impl_MelodySteps.f (n + 1) a0) := by
 intro a0 n
 unfold impl_MelodySteps.f
 exact LeO.bind (impl_MelodyValid.mono _ _) (fun _ => LeO.refl _)
set_option maxHeartbeats 1000000 in
set_option maxRecDepth 100000 in
theorem impl_MelodySteps.calls (n : Nat) (A0 : Option Addr) (c0 : Nat) (l0 : List S49) (r : List Int) (w : World) (hr0 : Kd.C k49 w A0 l0.length l0) (hc0 : l0.length ≤ c0) (h : impl_MelodySteps.f n l0 = some r) :
  Calls Tryz.prog 93 #[.slice A0 l0.length c0] w fun e w' => ∃ v0_ : Value, e = .returned v0_ ∧ Kd.R (Kd.int .i64) 3 w' w.heap.size (fun _ => True) v0_ r ∧ Below w.heap.size w w' := by
 unfold impl_MelodySteps.f at h
 obtain ⟨ok, hv, h⟩ := Option.bind_eq_some_iff.mp h
 by_cases hc : ok = true ∧ 0 < l0.length
 ·rw [if_pos hc] at h
  obtain rfl := Option.some.inj h
  obtain ⟨rfl, hne⟩ := hc
  have HR0 := am hr0
  have HC0 := am hc0
  have HV := am hv
  have HNE := am hne
  clear hr0 hc0 hv hne h
  go_enter Tryz.func93, Tryz.ntmps93
  go_wp2_with fail
  refine (steps_any n A0 c0 l0 _ HR0.out HC0.out HV.out HNE.out).mono ?_
  rintro e w1 ⟨v, rfl, ho, hb⟩
  have HO := am ho
  have HB := am hb
  clear ho hb
  go_wp2_with fail
  go_ret
  exact ⟨_, rfl, HO.out, HB.out⟩
 ·rw [if_neg hc] at h
  exact absurd h (by simp)


end Go.Proofs.YtkdlfnakbilhjaaGreatDoor.XK
