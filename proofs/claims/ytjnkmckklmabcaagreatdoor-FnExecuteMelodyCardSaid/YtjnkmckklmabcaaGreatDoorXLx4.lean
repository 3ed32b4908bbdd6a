-- Made by this session's gprint.py out of the translation. Not trusted: Lean checks it. -- SLIM -- SQUEEZED
import Derived.Test.YtjnkmckklmabcaaGreatDoorXLx0
namespace Go.Proofs.YtjnkmckklmabcaaGreatDoor.XL
open Go.RowKit Go.Proofs.YtjnkmckklmabcaaGreatDoorW.PrintWords Go.Proofs.YtjnkmckklmabcaaGreatDoorW.PrintLast Go.Proofs.YtjnkmckklmabcaaGreatDoorW.PrintMore
attribute [local go_sem] max2_int min2_int max_two min_two max_three min_three max_four min_four   -- for this text's walks alone
set_option maxHeartbeats 8000000
set_option maxRecDepth 100000
set_option linter.unusedVariables false
set_option linter.unusedSimpArgs false

/-! ### hexachords, by hand -/
def kindStr (r : Nat) : ByteArray := if r = 0 then ⟨#[104, 97, 114, 100]⟩ else if r = 3 then ⟨#[110, 97, 116, 117, 114, 97, 108]⟩ else if r = 6 then ⟨#[115, 111, 102, 116]⟩ else ⟨#[]⟩
theorem hexKindAt_any (x : Int) (h0 : 0 ≤ x) (w : World) (hT : TabL w) : Calls Tryz.prog 135 #[.int .i64 x] w fun e w' => e = .returned (.string (kindStr (x % 7).toNat)) ∧ w' = w := by
 have hx : x % 7 = 0 ∨ x % 7 = 1 ∨ x % 7 = 2 ∨ x % 7 = 3 ∨ x % 7 = 4 ∨ x % 7 = 5 ∨ x % 7 = 6 := by omega
 have c0 : w.cell? ⟨2, 0, none⟩ = some (.string ⟨#[71]⟩) := hT 0 _ rfl
 have c1 : w.cell? ⟨2, 1, none⟩ = some (.string ⟨#[65]⟩) := hT 1 _ rfl
 have c2 : w.cell? ⟨2, 2, none⟩ = some (.string ⟨#[66]⟩) := hT 2 _ rfl
 have c3 : w.cell? ⟨2, 3, none⟩ = some (.string ⟨#[67]⟩) := hT 3 _ rfl
 have c4 : w.cell? ⟨2, 4, none⟩ = some (.string ⟨#[68]⟩) := hT 4 _ rfl
 have c5 : w.cell? ⟨2, 5, none⟩ = some (.string ⟨#[69]⟩) := hT 5 _ rfl
 have c6 : w.cell? ⟨2, 6, none⟩ = some (.string ⟨#[70]⟩) := hT 6 _ rfl
 clear hT
 rcases hx with hx | hx | hx | hx | hx | hx | hx
 all_goals
  go_enter Tryz.func135, Tryz.ntmps135
  go_wp2
  go_ret
  refine ⟨?_, rfl⟩
  rw [hx]
  rfl
theorem kindAt_eq (s : Nat) (S : ByteArray) (hS : kindStr (s % 7) = S) (w : World) (hT : TabL w) : Calls Tryz.prog 135 #[.int .i64 (s : Int)] w fun e w' => e = .returned (.string S) ∧ w = w' :=
 (hexKindAt_any (s : Int) (by omega) w hT).mono fun e w' ⟨he, hw⟩ => ⟨by rw [he, show (((s : Int) % 7).toNat) = s % 7 by omega, hS], hw.symm⟩
def softAt (s j : Nat) : Bool := decide (s % 7 = 6) && decide (j = 3)
def hexT (s j i : Nat) : Value := if i < j then .int .i64 ((s : Int) + (i : Int)) else .int .i64 0
def hexB (s j i : Nat) : Value := if i < j then .bool (softAt s i) else .bool false
/-- A hexachord's cells, its first j tones filled in. -/
def hexL (s j : Nat) : List Value := [.int .i64 (s : Int), hexT s j 0, hexB s j 0, hexT s j 1, hexB s j 1, hexT s j 2, hexB s j 2, hexT s j 3, hexB s j 3, hexT s j 4, hexB s j 4, hexT s j 5, hexB s j 5]
theorem hexL_step (s j : Nat) (h : j < 6) : ((hexL s j).toArray.setIfInBounds (1 + j * 2) (.int .i64 ((s : Int) + (j : Int)))).setIfInBounds (1 + j * 2 + 1) (.bool (softAt s j)) = (hexL s (j + 1)).toArray := by
 have : j = 0 ∨ j = 1 ∨ j = 2 ∨ j = 3 ∨ j = 4 ∨ j = 5 := by omega
 rcases this with rfl | rfl | rfl | rfl | rfl | rfl <;> rfl
theorem hexL_at (s j i : Nat) (h : i < 13) : ∃ v, (hexL s j).toArray[i]? = some v := by
 have hl : (hexL s j).toArray.size = 13 := rfl
 exact ⟨_, Array.getElem?_eq_getElem (by rw [hl]; exact h)⟩
/-- Hexachords by their starts. -/
def kHex : Kd Nat where
 sz := 13
 E := []
 K := fun _ s cs => cs = hexL s 6
 M := fun _ _ _ s cs => cs = hexL s 6
 K_len := fun h => by rw [h]; rfl
 K_one := fun h u hu => by
  rw [h] at hu
  simp only [hexL, hexT, hexB, List.mem_cons, List.not_mem_nil, or_false] at hu
  rcases hu with rfl | rfl | rfl | rfl | rfl | rfl | rfl | rfl | rfl | rfl | rfl | rfl | rfl <;> rfl
 K_below := fun _ h => h
 K_of_M := fun h => h
 M_mono := fun _ h => h
 M_bound := fun h => h
 M_move := fun _ h => h
 M_lower := fun _ h => h
def hexAll : List Nat := [0, 3, 6, 7, 10, 13, 14]
def hexS (s : Nat) : List Nat := hexAll.filter (· < s)
theorem hexS_step : ∀ s, s < 16 → hexS (s + 1) = if s % 7 = 0 ∨ s % 7 = 3 ∨ s % 7 = 6 then hexS s ++ [s] else hexS s := by decide
theorem hexS_len (s : Nat) : (hexS s).length ≤ 7 := List.length_filter_le _ _
theorem hexInfo : (Tryz.prog.info? 173).map (fun i => (i.zero, i.size, i.bytes)) = some (some (.agg #[.int .i64 0, .int .i64 0, .bool false, .int .i64 0, .bool false, .int .i64 0, .bool false, .int .i64 0, .bool false, .int .i64 0, .bool false, .int .i64 0, .bool false]), 13, 104) := by kernel_rfl
theorem hexachords_any (w : World) (hT : TabL w) : Calls Tryz.prog 105 #[] w fun e w' => ∃ (g : Nat) (v : Value), e = .returned (.pointer (some ⟨g, 0, none⟩)) ∧ w'.heap[g]? = some (.cells #[v] 170 (0, 0)) ∧ Kd.R kHex 173 w' w.heap.size (fun k => k ≠ g) v hexAll ∧ Below w.heap.size w w' ∧ w.heap.size ≤ g := by
 have hu1 := Tryz.underlying170
 have hu2 := Tryz.underlying173
 have hu3 := Tryz.underlying74
 have HT := am hT
 clear hT
 go_enter Tryz.func105, Tryz.ntmps105
 go_wp2_with fail
 go_loopg [2] 20 (fun kq v2 w' => ∃ (s : Nat) (u : Value), v2 = .int .i64 (s : Int) ∧ Aside0 (s ≤ 16 ∧ kq = 20 - s) ∧ Aside0 (w'.heap[w.heap.size]? = some (.cells #[u] 170 (0, 0))) ∧ Aside0 (Kd.R kHex 173 w' w.heap.size (fun k => k ≠ w.heap.size) u (hexS s)) ∧ Aside0 (Below w.heap.size w w'))
 case atStart => exact ⟨0, .slice none 0 0, rfl, ⟨by omega, by omega⟩, ⟨blk_new _ _⟩, ⟨Kd.R_nil _ _ _ _ _⟩, ⟨below_alloc (Below.refl _ _) _⟩⟩
 case round =>
  obtain ⟨s, u, rfl, HS, HK, HO, HB⟩ := hrel
  have hs16 : s ≤ 16 := HS.out.1
  by_cases hs : s < 16
  ·have hx : s % 7 = 0 ∨ s % 7 = 3 ∨ s % 7 = 6 ∨ (s % 7 = 1 ∨ s % 7 = 2 ∨ s % 7 = 4 ∨ s % 7 = 5) := by omega
   rcases hx with hx | hx | hx | hx
   ·have HX := am hx
    clear hx
    go_wp2_with fail
    refine (kindAt_eq s ⟨#[104, 97, 114, 100]⟩ (by rw [HX.out]; rfl) _ (HT.out.below HB.out)).mono ?_
    rintro e w1 ⟨rfl, rfl⟩
    go_wp2_with fail
    obtain ⟨wo, rfl⟩ : ∃ wo : World, wo = wr := ⟨_, rfl⟩
    have hltT : w.heap.size < wo.heap.size := blk_lt HK.out
    go_loopg [21] 6 (fun kq v21 w' => ∃ j : Nat, v21 = .int .i64 (j : Int) ∧ Aside0 (j ≤ 6 ∧ kq = 6 - j) ∧ Aside0 (w'.heap[wo.heap.size]? = some (.cells (hexL s j).toArray 173 (0, 0))) ∧ Aside0 (w'.heap[w.heap.size]? = some (.cells #[u] 170 (0, 0))) ∧ Aside0 (Kd.R kHex 173 w' w.heap.size (fun k => k ≠ w.heap.size ∧ k < wo.heap.size) u (hexS s)) ∧ Aside0 (Below w.heap.size w w'))
    case atStart => exact ⟨0, rfl, ⟨by omega, by omega⟩, ⟨blk_new _ _⟩, ⟨blk_alloc HK.out _⟩, ⟨Kd.R_alloc (Kd.R_mono (Kd.R_bound HO.out) (fun k h => ⟨h.1, h.2.2.1⟩)) _⟩, ⟨below_alloc HB.out _⟩⟩
    case round =>
     obtain ⟨j, rfl, HJ, HV, HK2, HO2, HB2⟩ := hrel
     by_cases hj : j < 6
     ·obtain ⟨x1, hx1⟩ := hexL_at s j (1 + j * 2) (by omega)
      obtain ⟨x2, hx2⟩ := hexL_at s j (1 + j * 2 + 1) (by omega)
      have d1 : wr.cell? ⟨wo.heap.size, 1 + j * 2, none⟩ = some x1 := (blk_cell HV.out _).trans hx1
      have d2 : wr.cell? ⟨wo.heap.size, 1 + j * 2 + 1, none⟩ = some x2 := (blk_cell HV.out _).trans hx2
      have df := fun i => blk_frozen HV.out i
      clear hx1 hx2
      go_wp2
      go_roundg (6 - (j + 1))
      case measure => have := HJ.out; omega
      case rel =>
       refine ⟨j + 1, by simp, ⟨by omega, rfl⟩, ⟨?_⟩, ⟨blk_far (p := ⟨wo.heap.size, _, none⟩) (blk_far (p := ⟨wo.heap.size, _, none⟩) HK2.out (by show w.heap.size ≠ wo.heap.size; omega) _) (by show w.heap.size ≠ wo.heap.size; omega) _⟩, ⟨Kd.R_far (p := ⟨wo.heap.size, _, none⟩) (Kd.R_far (p := ⟨wo.heap.size, _, none⟩) HO2.out (fun k h => by have := h.2; show k ≠ wo.heap.size; omega) _) (fun k h => by have := h.2; show k ≠ wo.heap.size; omega) _⟩, ⟨below_set (below_set HB2.out (by omega)) (by omega)⟩⟩
       have e1 : softAt s j = false := by unfold softAt; rw [decide_eq_false (by have := HX.out; omega)]; rfl
       rw [← hexL_step s j hj, e1]
       exact blk_put (blk_put HV.out _ _ rfl) _ _ rfl
     have e : j = 6 := by have := HJ.out.1; omega
     subst e
     clear hj
     obtain ⟨A, c, e2⟩ := Kd.R_slice HO2.out
     subst e2
     go_wp2_with fail
     have p0 : wr.cell? ⟨wo.heap.size, 0, none⟩ = some (.int .i64 (s : Int)) := (blk_cell HV.out 0).trans (by simp [hexL, hexT, hexB])
     have p1 : wr.cell? ⟨wo.heap.size, 1, none⟩ = some (.int .i64 (s : Int)) := (blk_cell HV.out 1).trans (by simp [hexL, hexT, hexB])
     have p2 : wr.cell? ⟨wo.heap.size, 2, none⟩ = some (.bool (softAt s 0)) := (blk_cell HV.out 2).trans (by simp [hexL, hexT, hexB])
     have p3 : wr.cell? ⟨wo.heap.size, 3, none⟩ = some (.int .i64 ((s : Int) + 1)) := (blk_cell HV.out 3).trans (by simp [hexL, hexT, hexB])
     have p4 : wr.cell? ⟨wo.heap.size, 4, none⟩ = some (.bool (softAt s 1)) := (blk_cell HV.out 4).trans (by simp [hexL, hexT, hexB])
     have p5 : wr.cell? ⟨wo.heap.size, 5, none⟩ = some (.int .i64 ((s : Int) + 2)) := (blk_cell HV.out 5).trans (by simp [hexL, hexT, hexB])
     have p6 : wr.cell? ⟨wo.heap.size, 6, none⟩ = some (.bool (softAt s 2)) := (blk_cell HV.out 6).trans (by simp [hexL, hexT, hexB])
     have p7 : wr.cell? ⟨wo.heap.size, 7, none⟩ = some (.int .i64 ((s : Int) + 3)) := (blk_cell HV.out 7).trans (by simp [hexL, hexT, hexB])
     have p8 : wr.cell? ⟨wo.heap.size, 8, none⟩ = some (.bool (softAt s 3)) := (blk_cell HV.out 8).trans (by simp [hexL, hexT, hexB])
     have p9 : wr.cell? ⟨wo.heap.size, 9, none⟩ = some (.int .i64 ((s : Int) + 4)) := (blk_cell HV.out 9).trans (by simp [hexL, hexT, hexB])
     have p10 : wr.cell? ⟨wo.heap.size, 10, none⟩ = some (.bool (softAt s 4)) := (blk_cell HV.out 10).trans (by simp [hexL, hexT, hexB])
     have p11 : wr.cell? ⟨wo.heap.size, 11, none⟩ = some (.int .i64 ((s : Int) + 5)) := (blk_cell HV.out 11).trans (by simp [hexL, hexT, hexB])
     have p12 : wr.cell? ⟨wo.heap.size, 12, none⟩ = some (.bool (softAt s 5)) := (blk_cell HV.out 12).trans (by simp [hexL, hexT, hexB])
     have pT : wr.cell? ⟨w.heap.size, 0, none⟩ = some (.slice A (hexS s).length c) := blk_cell HK2.out 0
     have HS7 := hexS_len s
     refine start_ (n := 11) (S := fun w' => w'.cell? ⟨w.heap.size, 0, none⟩ = some (.slice A (hexS s).length c) ∧ w'.cell? ⟨wo.heap.size, 0, none⟩ = some (.int .i64 (s : Int)) ∧ w'.cell? ⟨wo.heap.size, 1, none⟩ = some (.int .i64 (s : Int)) ∧ w'.cell? ⟨wo.heap.size, 2, none⟩ = some (.bool (softAt s 0)) ∧ w'.cell? ⟨wo.heap.size, 3, none⟩ = some (.int .i64 ((s : Int) + 1)) ∧ w'.cell? ⟨wo.heap.size, 4, none⟩ = some (.bool (softAt s 1)) ∧ w'.cell? ⟨wo.heap.size, 5, none⟩ = some (.int .i64 ((s : Int) + 2)) ∧ w'.cell? ⟨wo.heap.size, 6, none⟩ = some (.bool (softAt s 2)) ∧ w'.cell? ⟨wo.heap.size, 7, none⟩ = some (.int .i64 ((s : Int) + 3)) ∧ w'.cell? ⟨wo.heap.size, 8, none⟩ = some (.bool (softAt s 3)) ∧ w'.cell? ⟨wo.heap.size, 9, none⟩ = some (.int .i64 ((s : Int) + 4)) ∧ w'.cell? ⟨wo.heap.size, 10, none⟩ = some (.bool (softAt s 4)) ∧ w'.cell? ⟨wo.heap.size, 11, none⟩ = some (.int .i64 ((s : Int) + 5)) ∧ w'.cell? ⟨wo.heap.size, 12, none⟩ = some (.bool (softAt s 5))) (ds := [10]) #[F,F,F,F,F,F,F,F,F,F,F] (by kernel_rfl) rfl rfl ⟨pT, p0, p1, p2, p3, p4, p5, p6, p7, p8, p9, p10, p11, p12⟩ (fun hHeld => ?_)
     clear pT p0 p1 p2 p3 p4 p5 p6 p7 p8 p9 p10 p11 p12
     have HO3 := am (Kd.R_drew HO2.out)
     have HB3 := am (below_drew1 HB2.out)
     have HV3 := am (blk_drew HV.out)
     have HK3 := am (blk_drew HK2.out)
     clear HO2 HB2 HV HK2
     generalize wr.drew = w5 at HO3 HB3 HV3 HK3 hHeld ⊢
     refine pz 0 (some 40) #[T,F,F,F,F,F,F,F,F,F,F] (by kernel_rfl) (h := ?_)
     refine pz 1 (some 41) #[T,T,F,F,F,F,F,F,F,F,F] (by kernel_rfl) (h := ?_)
     refine pz 2 (some 42) #[T,T,T,F,F,F,F,F,F,F,F] (by kernel_rfl) (h := ?_)
     refine pz 3 (some 43) #[T,T,T,T,F,F,F,F,F,F,F] (by kernel_rfl) (h := ?_)
     refine tz hHeld 4 (some 44) #[T,T,T,T,T,F,F,F,F,F,F] (by kernel_rfl) (h := ?_)
     refine tz hHeld 5 (some 45) #[T,T,T,T,T,T,F,F,F,F,F] (by kernel_rfl) (h := ?_)
     refine one_ (i := 6) (N := some 46) #[T,T,T,T,T,T,T,F,F,F,F] rfl rfl (by kernel_rfl) (by decide) (fun K hK => ?_)
     refine value_ (w1 := ?_) (v := ?_) (by rfl) rfl ?_ ?_
     rotate_left 2
     ·go_simp
      constructor
      ·rfl
      ·rfl
     refine hK.out _ _ ⟨blk_cell (blk_alloc HK3.out _) 0, (blk_cell (blk_alloc HV3.out _) 0).trans (by simp [hexL, hexT, hexB]), (blk_cell (blk_alloc HV3.out _) 1).trans (by simp [hexL, hexT, hexB]), (blk_cell (blk_alloc HV3.out _) 2).trans (by simp [hexL, hexT, hexB]), (blk_cell (blk_alloc HV3.out _) 3).trans (by simp [hexL, hexT, hexB]), (blk_cell (blk_alloc HV3.out _) 4).trans (by simp [hexL, hexT, hexB]), (blk_cell (blk_alloc HV3.out _) 5).trans (by simp [hexL, hexT, hexB]), (blk_cell (blk_alloc HV3.out _) 6).trans (by simp [hexL, hexT, hexB]), (blk_cell (blk_alloc HV3.out _) 7).trans (by simp [hexL, hexT, hexB]), (blk_cell (blk_alloc HV3.out _) 8).trans (by simp [hexL, hexT, hexB]), (blk_cell (blk_alloc HV3.out _) 9).trans (by simp [hexL, hexT, hexB]), (blk_cell (blk_alloc HV3.out _) 10).trans (by simp [hexL, hexT, hexB]), (blk_cell (blk_alloc HV3.out _) 11).trans (by simp [hexL, hexT, hexB]), (blk_cell (blk_alloc HV3.out _) 12).trans (by simp [hexL, hexT, hexB])⟩ (fun hHeld => ?_)
     clear hK K
     refine norm_ (a' := ?_) ?_ ?_
     rotate_left
     ·show Act.put _ (some 46) _ = _
      simp only [Act.put, sA, sZ, sS, i64_w, i32_w]
      rfl
     refine one_ (i := 7) (N := some 47) #[T,T,T,T,T,T,T,T,F,F,F] rfl rfl (by kernel_rfl) (by decide) (fun K hK => ?_)
     refine Kd.R_append_step kHex (w0 := w) w.heap.size (by rfl) (.tmp 44) (.tmp 46) 168 173 (.agg #[.int .i64 0, .int .i64 0, .bool false, .int .i64 0, .bool false, .int .i64 0, .bool false, .int .i64 0, .bool false, .int .i64 0, .bool false, .int .i64 0, .bool false]) 104 rfl Tryz.underlying168 hexInfo rfl (by decide) (by omega) (.slice A (hexS s).length c) (hexS s) s [.int .i64 (s : Int), .int .i64 (s : Int), .bool (softAt s 0), .int .i64 ((s : Int) + 1), .bool (softAt s 1), .int .i64 ((s : Int) + 2), .bool (softAt s 2), .int .i64 ((s : Int) + 3), .bool (softAt s 3), .int .i64 ((s : Int) + 4), .bool (softAt s 4), .int .i64 ((s : Int) + 5), .bool (softAt s 5)] (fun k => k ≠ w.heap.size ∧ (k < wo.heap.size ∨ wo.heap.size < k)) (fun _ => False) rfl rfl ?aP (fun _ hk => hk.elim) ?aF ?aO ?aB ?aS ?aL ?_
     (case aP => show _ = hexL s 6; simp [hexL, hexT, hexB])
     (case aB => exact HB3.out)
     (case aF => exact (fun k hk => ⟨by have := blk_lt HV3.out; omega, .inr (by have := blk_lt HV3.out; omega)⟩))
     (case aO => exact Kd.R_mono HO3.out (fun k h => ⟨h.1, .inl h.2⟩))
     (case aS => exact (below_size HB3.out))
     (case aL => omega)
     intro v1 w6 ho hb hg hat
     have nT : some w.heap.size ≠ (Value.slice A (hexS s).length c).ownBlock := fun e => (HO3.out.1 _ e.symm).1 rfl
     have nV : some wo.heap.size ≠ (Value.slice A (hexS s).length c).ownBlock := fun e => by have := (HO3.out.1 _ e.symm).2; omega
     have HV4 := am (blk_grown HV3.out hg nV)
     have HK4 := am (blk_grown HK3.out hg nT)
     have HO4 := am ho
     have HB4 := am hb
     clear HO3 HB3 HV3 HK3 nT nV ho hb hg hat
     obtain ⟨A1, c1, e1⟩ := Kd.R_slice HO4.out
     subst e1
     refine hK.out _ _ ⟨blk_cell HK4.out 0, (blk_cell HV4.out 0).trans (by simp [hexL, hexT, hexB]), (blk_cell HV4.out 1).trans (by simp [hexL, hexT, hexB]), (blk_cell HV4.out 2).trans (by simp [hexL, hexT, hexB]), (blk_cell HV4.out 3).trans (by simp [hexL, hexT, hexB]), (blk_cell HV4.out 4).trans (by simp [hexL, hexT, hexB]), (blk_cell HV4.out 5).trans (by simp [hexL, hexT, hexB]), (blk_cell HV4.out 6).trans (by simp [hexL, hexT, hexB]), (blk_cell HV4.out 7).trans (by simp [hexL, hexT, hexB]), (blk_cell HV4.out 8).trans (by simp [hexL, hexT, hexB]), (blk_cell HV4.out 9).trans (by simp [hexL, hexT, hexB]), (blk_cell HV4.out 10).trans (by simp [hexL, hexT, hexB]), (blk_cell HV4.out 11).trans (by simp [hexL, hexT, hexB]), (blk_cell HV4.out 12).trans (by simp [hexL, hexT, hexB])⟩ (fun hHeld => ?_)
     clear hK K
     refine norm_ (a' := ?_) ?_ ?_
     rotate_left
     ·show Act.put _ (some 47) _ = _
      simp only [Act.put, sA, sZ, sS, i64_w, i32_w]
      rfl
     refine pz 8 (some 48) #[T,T,T,T,T,T,T,T,T,F,F] (by kernel_rfl) (h := ?_)
     refine pz 9 (some 49) #[T,T,T,T,T,T,T,T,T,T,F] (by kernel_rfl) (h := ?_)
     clear hHeld
     have q0 := blk_cell HK4.out 0
     have qf := fun i => blk_frozen HK4.out i
     refine last_ (i := 10) (N := none) #[T,T,T,T,T,T,T,T,T,T,T] rfl rfl (by kernel_rfl) (by decide) (fun K hK => ?_)
     refine skip_ (w1 := ?_) (by rfl) rfl ?_ ?_
     rotate_left
     ·go_simp
      rfl
     refine hK.out _ _ ?_
     clear hK K
     refine done_ (by kernel_rfl) ?_
     clear q0 qf
     go_wp2_with fail
     go_roundg (20 - (s + 1))
     case measure => have := HS.out; omega
     case rel =>
      refine ⟨s + 1, _, by simp, ⟨by omega, by have := HS.out; omega⟩, ⟨blk_put HK4.out 0 _ rfl⟩, ⟨?_⟩, ⟨below_set HB4.out (Nat.le_refl _)⟩⟩
      rw [hexS_step s hs, if_pos (by have := HX.out; omega)]
      have HO5 := HO4.out
      rw [show (hexS s ++ [s]).length = (hexS s).length + 1 by simp] at HO5
      exact Kd.R_far (p := ⟨w.heap.size, 0, none⟩) (Kd.R_mono HO5 (fun k h => h.1)) (fun k h => h) _
   ·have HX := am hx
    clear hx
    go_wp2_with fail
    refine (kindAt_eq s ⟨#[110, 97, 116, 117, 114, 97, 108]⟩ (by rw [HX.out]; rfl) _ (HT.out.below HB.out)).mono ?_
    rintro e w1 ⟨rfl, rfl⟩
    go_wp2_with fail
    obtain ⟨wo, rfl⟩ : ∃ wo : World, wo = wr := ⟨_, rfl⟩
    have hltT : w.heap.size < wo.heap.size := blk_lt HK.out
    go_loopg [21] 6 (fun kq v21 w' => ∃ j : Nat, v21 = .int .i64 (j : Int) ∧ Aside0 (j ≤ 6 ∧ kq = 6 - j) ∧ Aside0 (w'.heap[wo.heap.size]? = some (.cells (hexL s j).toArray 173 (0, 0))) ∧ Aside0 (w'.heap[w.heap.size]? = some (.cells #[u] 170 (0, 0))) ∧ Aside0 (Kd.R kHex 173 w' w.heap.size (fun k => k ≠ w.heap.size ∧ k < wo.heap.size) u (hexS s)) ∧ Aside0 (Below w.heap.size w w'))
    case atStart => exact ⟨0, rfl, ⟨by omega, by omega⟩, ⟨blk_new _ _⟩, ⟨blk_alloc HK.out _⟩, ⟨Kd.R_alloc (Kd.R_mono (Kd.R_bound HO.out) (fun k h => ⟨h.1, h.2.2.1⟩)) _⟩, ⟨below_alloc HB.out _⟩⟩
    case round =>
     obtain ⟨j, rfl, HJ, HV, HK2, HO2, HB2⟩ := hrel
     by_cases hj : j < 6
     ·obtain ⟨x1, hx1⟩ := hexL_at s j (1 + j * 2) (by omega)
      obtain ⟨x2, hx2⟩ := hexL_at s j (1 + j * 2 + 1) (by omega)
      have d1 : wr.cell? ⟨wo.heap.size, 1 + j * 2, none⟩ = some x1 := (blk_cell HV.out _).trans hx1
      have d2 : wr.cell? ⟨wo.heap.size, 1 + j * 2 + 1, none⟩ = some x2 := (blk_cell HV.out _).trans hx2
      have df := fun i => blk_frozen HV.out i
      clear hx1 hx2
      go_wp2
      go_roundg (6 - (j + 1))
      case measure => have := HJ.out; omega
      case rel =>
       refine ⟨j + 1, by simp, ⟨by omega, rfl⟩, ⟨?_⟩, ⟨blk_far (p := ⟨wo.heap.size, _, none⟩) (blk_far (p := ⟨wo.heap.size, _, none⟩) HK2.out (by show w.heap.size ≠ wo.heap.size; omega) _) (by show w.heap.size ≠ wo.heap.size; omega) _⟩, ⟨Kd.R_far (p := ⟨wo.heap.size, _, none⟩) (Kd.R_far (p := ⟨wo.heap.size, _, none⟩) HO2.out (fun k h => by have := h.2; show k ≠ wo.heap.size; omega) _) (fun k h => by have := h.2; show k ≠ wo.heap.size; omega) _⟩, ⟨below_set (below_set HB2.out (by omega)) (by omega)⟩⟩
       have e1 : softAt s j = false := by unfold softAt; rw [decide_eq_false (by have := HX.out; omega)]; rfl
       rw [← hexL_step s j hj, e1]
       exact blk_put (blk_put HV.out _ _ rfl) _ _ rfl
     have e : j = 6 := by have := HJ.out.1; omega
     subst e
     clear hj
     obtain ⟨A, c, e2⟩ := Kd.R_slice HO2.out
     subst e2
     go_wp2_with fail
     have p0 : wr.cell? ⟨wo.heap.size, 0, none⟩ = some (.int .i64 (s : Int)) := (blk_cell HV.out 0).trans (by simp [hexL, hexT, hexB])
     have p1 : wr.cell? ⟨wo.heap.size, 1, none⟩ = some (.int .i64 (s : Int)) := (blk_cell HV.out 1).trans (by simp [hexL, hexT, hexB])
     have p2 : wr.cell? ⟨wo.heap.size, 2, none⟩ = some (.bool (softAt s 0)) := (blk_cell HV.out 2).trans (by simp [hexL, hexT, hexB])
     have p3 : wr.cell? ⟨wo.heap.size, 3, none⟩ = some (.int .i64 ((s : Int) + 1)) := (blk_cell HV.out 3).trans (by simp [hexL, hexT, hexB])
     have p4 : wr.cell? ⟨wo.heap.size, 4, none⟩ = some (.bool (softAt s 1)) := (blk_cell HV.out 4).trans (by simp [hexL, hexT, hexB])
     have p5 : wr.cell? ⟨wo.heap.size, 5, none⟩ = some (.int .i64 ((s : Int) + 2)) := (blk_cell HV.out 5).trans (by simp [hexL, hexT, hexB])
     have p6 : wr.cell? ⟨wo.heap.size, 6, none⟩ = some (.bool (softAt s 2)) := (blk_cell HV.out 6).trans (by simp [hexL, hexT, hexB])
     have p7 : wr.cell? ⟨wo.heap.size, 7, none⟩ = some (.int .i64 ((s : Int) + 3)) := (blk_cell HV.out 7).trans (by simp [hexL, hexT, hexB])
     have p8 : wr.cell? ⟨wo.heap.size, 8, none⟩ = some (.bool (softAt s 3)) := (blk_cell HV.out 8).trans (by simp [hexL, hexT, hexB])
     have p9 : wr.cell? ⟨wo.heap.size, 9, none⟩ = some (.int .i64 ((s : Int) + 4)) := (blk_cell HV.out 9).trans (by simp [hexL, hexT, hexB])
     have p10 : wr.cell? ⟨wo.heap.size, 10, none⟩ = some (.bool (softAt s 4)) := (blk_cell HV.out 10).trans (by simp [hexL, hexT, hexB])
     have p11 : wr.cell? ⟨wo.heap.size, 11, none⟩ = some (.int .i64 ((s : Int) + 5)) := (blk_cell HV.out 11).trans (by simp [hexL, hexT, hexB])
     have p12 : wr.cell? ⟨wo.heap.size, 12, none⟩ = some (.bool (softAt s 5)) := (blk_cell HV.out 12).trans (by simp [hexL, hexT, hexB])
     have pT : wr.cell? ⟨w.heap.size, 0, none⟩ = some (.slice A (hexS s).length c) := blk_cell HK2.out 0
     have HS7 := hexS_len s
     refine start_ (n := 11) (S := fun w' => w'.cell? ⟨w.heap.size, 0, none⟩ = some (.slice A (hexS s).length c) ∧ w'.cell? ⟨wo.heap.size, 0, none⟩ = some (.int .i64 (s : Int)) ∧ w'.cell? ⟨wo.heap.size, 1, none⟩ = some (.int .i64 (s : Int)) ∧ w'.cell? ⟨wo.heap.size, 2, none⟩ = some (.bool (softAt s 0)) ∧ w'.cell? ⟨wo.heap.size, 3, none⟩ = some (.int .i64 ((s : Int) + 1)) ∧ w'.cell? ⟨wo.heap.size, 4, none⟩ = some (.bool (softAt s 1)) ∧ w'.cell? ⟨wo.heap.size, 5, none⟩ = some (.int .i64 ((s : Int) + 2)) ∧ w'.cell? ⟨wo.heap.size, 6, none⟩ = some (.bool (softAt s 2)) ∧ w'.cell? ⟨wo.heap.size, 7, none⟩ = some (.int .i64 ((s : Int) + 3)) ∧ w'.cell? ⟨wo.heap.size, 8, none⟩ = some (.bool (softAt s 3)) ∧ w'.cell? ⟨wo.heap.size, 9, none⟩ = some (.int .i64 ((s : Int) + 4)) ∧ w'.cell? ⟨wo.heap.size, 10, none⟩ = some (.bool (softAt s 4)) ∧ w'.cell? ⟨wo.heap.size, 11, none⟩ = some (.int .i64 ((s : Int) + 5)) ∧ w'.cell? ⟨wo.heap.size, 12, none⟩ = some (.bool (softAt s 5))) (ds := [10]) #[F,F,F,F,F,F,F,F,F,F,F] (by kernel_rfl) rfl rfl ⟨pT, p0, p1, p2, p3, p4, p5, p6, p7, p8, p9, p10, p11, p12⟩ (fun hHeld => ?_)
     clear pT p0 p1 p2 p3 p4 p5 p6 p7 p8 p9 p10 p11 p12
     have HO3 := am (Kd.R_drew HO2.out)
     have HB3 := am (below_drew1 HB2.out)
     have HV3 := am (blk_drew HV.out)
     have HK3 := am (blk_drew HK2.out)
     clear HO2 HB2 HV HK2
     generalize wr.drew = w5 at HO3 HB3 HV3 HK3 hHeld ⊢
     refine pz 0 (some 40) #[T,F,F,F,F,F,F,F,F,F,F] (by kernel_rfl) (h := ?_)
     refine pz 1 (some 41) #[T,T,F,F,F,F,F,F,F,F,F] (by kernel_rfl) (h := ?_)
     refine pz 2 (some 42) #[T,T,T,F,F,F,F,F,F,F,F] (by kernel_rfl) (h := ?_)
     refine pz 3 (some 43) #[T,T,T,T,F,F,F,F,F,F,F] (by kernel_rfl) (h := ?_)
     refine tz hHeld 4 (some 44) #[T,T,T,T,T,F,F,F,F,F,F] (by kernel_rfl) (h := ?_)
     refine tz hHeld 5 (some 45) #[T,T,T,T,T,T,F,F,F,F,F] (by kernel_rfl) (h := ?_)
     refine one_ (i := 6) (N := some 46) #[T,T,T,T,T,T,T,F,F,F,F] rfl rfl (by kernel_rfl) (by decide) (fun K hK => ?_)
     refine value_ (w1 := ?_) (v := ?_) (by rfl) rfl ?_ ?_
     rotate_left 2
     ·go_simp
      constructor
      ·rfl
      ·rfl
     refine hK.out _ _ ⟨blk_cell (blk_alloc HK3.out _) 0, (blk_cell (blk_alloc HV3.out _) 0).trans (by simp [hexL, hexT, hexB]), (blk_cell (blk_alloc HV3.out _) 1).trans (by simp [hexL, hexT, hexB]), (blk_cell (blk_alloc HV3.out _) 2).trans (by simp [hexL, hexT, hexB]), (blk_cell (blk_alloc HV3.out _) 3).trans (by simp [hexL, hexT, hexB]), (blk_cell (blk_alloc HV3.out _) 4).trans (by simp [hexL, hexT, hexB]), (blk_cell (blk_alloc HV3.out _) 5).trans (by simp [hexL, hexT, hexB]), (blk_cell (blk_alloc HV3.out _) 6).trans (by simp [hexL, hexT, hexB]), (blk_cell (blk_alloc HV3.out _) 7).trans (by simp [hexL, hexT, hexB]), (blk_cell (blk_alloc HV3.out _) 8).trans (by simp [hexL, hexT, hexB]), (blk_cell (blk_alloc HV3.out _) 9).trans (by simp [hexL, hexT, hexB]), (blk_cell (blk_alloc HV3.out _) 10).trans (by simp [hexL, hexT, hexB]), (blk_cell (blk_alloc HV3.out _) 11).trans (by simp [hexL, hexT, hexB]), (blk_cell (blk_alloc HV3.out _) 12).trans (by simp [hexL, hexT, hexB])⟩ (fun hHeld => ?_)
     clear hK K
     refine norm_ (a' := ?_) ?_ ?_
     rotate_left
     ·show Act.put _ (some 46) _ = _
      simp only [Act.put, sA, sZ, sS, i64_w, i32_w]
      rfl
     refine one_ (i := 7) (N := some 47) #[T,T,T,T,T,T,T,T,F,F,F] rfl rfl (by kernel_rfl) (by decide) (fun K hK => ?_)
     refine Kd.R_append_step kHex (w0 := w) w.heap.size (by rfl) (.tmp 44) (.tmp 46) 168 173 (.agg #[.int .i64 0, .int .i64 0, .bool false, .int .i64 0, .bool false, .int .i64 0, .bool false, .int .i64 0, .bool false, .int .i64 0, .bool false, .int .i64 0, .bool false]) 104 rfl Tryz.underlying168 hexInfo rfl (by decide) (by omega) (.slice A (hexS s).length c) (hexS s) s [.int .i64 (s : Int), .int .i64 (s : Int), .bool (softAt s 0), .int .i64 ((s : Int) + 1), .bool (softAt s 1), .int .i64 ((s : Int) + 2), .bool (softAt s 2), .int .i64 ((s : Int) + 3), .bool (softAt s 3), .int .i64 ((s : Int) + 4), .bool (softAt s 4), .int .i64 ((s : Int) + 5), .bool (softAt s 5)] (fun k => k ≠ w.heap.size ∧ (k < wo.heap.size ∨ wo.heap.size < k)) (fun _ => False) rfl rfl ?aP (fun _ hk => hk.elim) ?aF ?aO ?aB ?aS ?aL ?_
     (case aP => show _ = hexL s 6; simp [hexL, hexT, hexB])
     (case aB => exact HB3.out)
     (case aF => exact (fun k hk => ⟨by have := blk_lt HV3.out; omega, .inr (by have := blk_lt HV3.out; omega)⟩))
     (case aO => exact Kd.R_mono HO3.out (fun k h => ⟨h.1, .inl h.2⟩))
     (case aS => exact (below_size HB3.out))
     (case aL => omega)
     intro v1 w6 ho hb hg hat
     have nT : some w.heap.size ≠ (Value.slice A (hexS s).length c).ownBlock := fun e => (HO3.out.1 _ e.symm).1 rfl
     have nV : some wo.heap.size ≠ (Value.slice A (hexS s).length c).ownBlock := fun e => by have := (HO3.out.1 _ e.symm).2; omega
     have HV4 := am (blk_grown HV3.out hg nV)
     have HK4 := am (blk_grown HK3.out hg nT)
     have HO4 := am ho
     have HB4 := am hb
     clear HO3 HB3 HV3 HK3 nT nV ho hb hg hat
     obtain ⟨A1, c1, e1⟩ := Kd.R_slice HO4.out
     subst e1
     refine hK.out _ _ ⟨blk_cell HK4.out 0, (blk_cell HV4.out 0).trans (by simp [hexL, hexT, hexB]), (blk_cell HV4.out 1).trans (by simp [hexL, hexT, hexB]), (blk_cell HV4.out 2).trans (by simp [hexL, hexT, hexB]), (blk_cell HV4.out 3).trans (by simp [hexL, hexT, hexB]), (blk_cell HV4.out 4).trans (by simp [hexL, hexT, hexB]), (blk_cell HV4.out 5).trans (by simp [hexL, hexT, hexB]), (blk_cell HV4.out 6).trans (by simp [hexL, hexT, hexB]), (blk_cell HV4.out 7).trans (by simp [hexL, hexT, hexB]), (blk_cell HV4.out 8).trans (by simp [hexL, hexT, hexB]), (blk_cell HV4.out 9).trans (by simp [hexL, hexT, hexB]), (blk_cell HV4.out 10).trans (by simp [hexL, hexT, hexB]), (blk_cell HV4.out 11).trans (by simp [hexL, hexT, hexB]), (blk_cell HV4.out 12).trans (by simp [hexL, hexT, hexB])⟩ (fun hHeld => ?_)
     clear hK K
     refine norm_ (a' := ?_) ?_ ?_
     rotate_left
     ·show Act.put _ (some 47) _ = _
      simp only [Act.put, sA, sZ, sS, i64_w, i32_w]
      rfl
     refine pz 8 (some 48) #[T,T,T,T,T,T,T,T,T,F,F] (by kernel_rfl) (h := ?_)
     refine pz 9 (some 49) #[T,T,T,T,T,T,T,T,T,T,F] (by kernel_rfl) (h := ?_)
     clear hHeld
     have q0 := blk_cell HK4.out 0
     have qf := fun i => blk_frozen HK4.out i
     refine last_ (i := 10) (N := none) #[T,T,T,T,T,T,T,T,T,T,T] rfl rfl (by kernel_rfl) (by decide) (fun K hK => ?_)
     refine skip_ (w1 := ?_) (by rfl) rfl ?_ ?_
     rotate_left
     ·go_simp
      rfl
     refine hK.out _ _ ?_
     clear hK K
     refine done_ (by kernel_rfl) ?_
     clear q0 qf
     go_wp2_with fail
     go_roundg (20 - (s + 1))
     case measure => have := HS.out; omega
     case rel =>
      refine ⟨s + 1, _, by simp, ⟨by omega, by have := HS.out; omega⟩, ⟨blk_put HK4.out 0 _ rfl⟩, ⟨?_⟩, ⟨below_set HB4.out (Nat.le_refl _)⟩⟩
      rw [hexS_step s hs, if_pos (by have := HX.out; omega)]
      have HO5 := HO4.out
      rw [show (hexS s ++ [s]).length = (hexS s).length + 1 by simp] at HO5
      exact Kd.R_far (p := ⟨w.heap.size, 0, none⟩) (Kd.R_mono HO5 (fun k h => h.1)) (fun k h => h) _
   ·have HX := am hx
    clear hx
    go_wp2_with fail
    refine (kindAt_eq s ⟨#[115, 111, 102, 116]⟩ (by rw [HX.out]; rfl) _ (HT.out.below HB.out)).mono ?_
    rintro e w1 ⟨rfl, rfl⟩
    go_wp2_with fail
    obtain ⟨wo, rfl⟩ : ∃ wo : World, wo = wr := ⟨_, rfl⟩
    have hltT : w.heap.size < wo.heap.size := blk_lt HK.out
    go_loopg [21] 6 (fun kq v21 w' => ∃ j : Nat, v21 = .int .i64 (j : Int) ∧ Aside0 (j ≤ 6 ∧ kq = 6 - j) ∧ Aside0 (w'.heap[wo.heap.size]? = some (.cells (hexL s j).toArray 173 (0, 0))) ∧ Aside0 (w'.heap[w.heap.size]? = some (.cells #[u] 170 (0, 0))) ∧ Aside0 (Kd.R kHex 173 w' w.heap.size (fun k => k ≠ w.heap.size ∧ k < wo.heap.size) u (hexS s)) ∧ Aside0 (Below w.heap.size w w'))
    case atStart => exact ⟨0, rfl, ⟨by omega, by omega⟩, ⟨blk_new _ _⟩, ⟨blk_alloc HK.out _⟩, ⟨Kd.R_alloc (Kd.R_mono (Kd.R_bound HO.out) (fun k h => ⟨h.1, h.2.2.1⟩)) _⟩, ⟨below_alloc HB.out _⟩⟩
    case round =>
     obtain ⟨j, rfl, HJ, HV, HK2, HO2, HB2⟩ := hrel
     by_cases hj : j < 6
     ·obtain ⟨x1, hx1⟩ := hexL_at s j (1 + j * 2) (by omega)
      obtain ⟨x2, hx2⟩ := hexL_at s j (1 + j * 2 + 1) (by omega)
      have d1 : wr.cell? ⟨wo.heap.size, 1 + j * 2, none⟩ = some x1 := (blk_cell HV.out _).trans hx1
      have d2 : wr.cell? ⟨wo.heap.size, 1 + j * 2 + 1, none⟩ = some x2 := (blk_cell HV.out _).trans hx2
      have df := fun i => blk_frozen HV.out i
      clear hx1 hx2
      by_cases hj3 : j = 3
      ·have HJ3 := am hj3
       have hm : (((s : Int) + (j : Int)) % 7 == 2) = true := by have := HX.out; rw [beq_iff_eq]; omega
       clear hj3
       go_wp2
       go_roundg (6 - (j + 1))
       case measure => have := HJ.out; omega
       case rel =>
        refine ⟨j + 1, by simp, ⟨by omega, rfl⟩, ⟨?_⟩, ⟨blk_far (p := ⟨wo.heap.size, _, none⟩) (blk_far (p := ⟨wo.heap.size, _, none⟩) HK2.out (by show w.heap.size ≠ wo.heap.size; omega) _) (by show w.heap.size ≠ wo.heap.size; omega) _⟩, ⟨Kd.R_far (p := ⟨wo.heap.size, _, none⟩) (Kd.R_far (p := ⟨wo.heap.size, _, none⟩) HO2.out (fun k h => by have := h.2; show k ≠ wo.heap.size; omega) _) (fun k h => by have := h.2; show k ≠ wo.heap.size; omega) _⟩, ⟨below_set (below_set HB2.out (by omega)) (by omega)⟩⟩
        have e1 : softAt s j = true := by unfold softAt; rw [decide_eq_true HX.out, decide_eq_true HJ3.out]; rfl
        rw [← hexL_step s j hj, e1]
        exact blk_put (blk_put HV.out _ _ rfl) _ _ rfl
      have HJ3 := am hj3
      have hm : (((s : Int) + (j : Int)) % 7 == 2) = false := by have := HX.out; rw [beq_eq_false_iff_ne]; omega
      clear hj3
      go_wp2
      go_roundg (6 - (j + 1))
      case measure => have := HJ.out; omega
      case rel =>
       refine ⟨j + 1, by simp, ⟨by omega, rfl⟩, ⟨?_⟩, ⟨blk_far (p := ⟨wo.heap.size, _, none⟩) (blk_far (p := ⟨wo.heap.size, _, none⟩) HK2.out (by show w.heap.size ≠ wo.heap.size; omega) _) (by show w.heap.size ≠ wo.heap.size; omega) _⟩, ⟨Kd.R_far (p := ⟨wo.heap.size, _, none⟩) (Kd.R_far (p := ⟨wo.heap.size, _, none⟩) HO2.out (fun k h => by have := h.2; show k ≠ wo.heap.size; omega) _) (fun k h => by have := h.2; show k ≠ wo.heap.size; omega) _⟩, ⟨below_set (below_set HB2.out (by omega)) (by omega)⟩⟩
       have e1 : softAt s j = false := by unfold softAt; rw [decide_eq_false HJ3.out]; simp
       rw [← hexL_step s j hj, e1]
       exact blk_put (blk_put HV.out _ _ rfl) _ _ rfl
     have e : j = 6 := by have := HJ.out.1; omega
     subst e
     clear hj
     obtain ⟨A, c, e2⟩ := Kd.R_slice HO2.out
     subst e2
     go_wp2_with fail
     have p0 : wr.cell? ⟨wo.heap.size, 0, none⟩ = some (.int .i64 (s : Int)) := (blk_cell HV.out 0).trans (by simp [hexL, hexT, hexB])
     have p1 : wr.cell? ⟨wo.heap.size, 1, none⟩ = some (.int .i64 (s : Int)) := (blk_cell HV.out 1).trans (by simp [hexL, hexT, hexB])
     have p2 : wr.cell? ⟨wo.heap.size, 2, none⟩ = some (.bool (softAt s 0)) := (blk_cell HV.out 2).trans (by simp [hexL, hexT, hexB])
     have p3 : wr.cell? ⟨wo.heap.size, 3, none⟩ = some (.int .i64 ((s : Int) + 1)) := (blk_cell HV.out 3).trans (by simp [hexL, hexT, hexB])
     have p4 : wr.cell? ⟨wo.heap.size, 4, none⟩ = some (.bool (softAt s 1)) := (blk_cell HV.out 4).trans (by simp [hexL, hexT, hexB])
     have p5 : wr.cell? ⟨wo.heap.size, 5, none⟩ = some (.int .i64 ((s : Int) + 2)) := (blk_cell HV.out 5).trans (by simp [hexL, hexT, hexB])
     have p6 : wr.cell? ⟨wo.heap.size, 6, none⟩ = some (.bool (softAt s 2)) := (blk_cell HV.out 6).trans (by simp [hexL, hexT, hexB])
     have p7 : wr.cell? ⟨wo.heap.size, 7, none⟩ = some (.int .i64 ((s : Int) + 3)) := (blk_cell HV.out 7).trans (by simp [hexL, hexT, hexB])
     have p8 : wr.cell? ⟨wo.heap.size, 8, none⟩ = some (.bool (softAt s 3)) := (blk_cell HV.out 8).trans (by simp [hexL, hexT, hexB])
     have p9 : wr.cell? ⟨wo.heap.size, 9, none⟩ = some (.int .i64 ((s : Int) + 4)) := (blk_cell HV.out 9).trans (by simp [hexL, hexT, hexB])
     have p10 : wr.cell? ⟨wo.heap.size, 10, none⟩ = some (.bool (softAt s 4)) := (blk_cell HV.out 10).trans (by simp [hexL, hexT, hexB])
     have p11 : wr.cell? ⟨wo.heap.size, 11, none⟩ = some (.int .i64 ((s : Int) + 5)) := (blk_cell HV.out 11).trans (by simp [hexL, hexT, hexB])
     have p12 : wr.cell? ⟨wo.heap.size, 12, none⟩ = some (.bool (softAt s 5)) := (blk_cell HV.out 12).trans (by simp [hexL, hexT, hexB])
     have pT : wr.cell? ⟨w.heap.size, 0, none⟩ = some (.slice A (hexS s).length c) := blk_cell HK2.out 0
     have HS7 := hexS_len s
     refine start_ (n := 11) (S := fun w' => w'.cell? ⟨w.heap.size, 0, none⟩ = some (.slice A (hexS s).length c) ∧ w'.cell? ⟨wo.heap.size, 0, none⟩ = some (.int .i64 (s : Int)) ∧ w'.cell? ⟨wo.heap.size, 1, none⟩ = some (.int .i64 (s : Int)) ∧ w'.cell? ⟨wo.heap.size, 2, none⟩ = some (.bool (softAt s 0)) ∧ w'.cell? ⟨wo.heap.size, 3, none⟩ = some (.int .i64 ((s : Int) + 1)) ∧ w'.cell? ⟨wo.heap.size, 4, none⟩ = some (.bool (softAt s 1)) ∧ w'.cell? ⟨wo.heap.size, 5, none⟩ = some (.int .i64 ((s : Int) + 2)) ∧ w'.cell? ⟨wo.heap.size, 6, none⟩ = some (.bool (softAt s 2)) ∧ w'.cell? ⟨wo.heap.size, 7, none⟩ = some (.int .i64 ((s : Int) + 3)) ∧ w'.cell? ⟨wo.heap.size, 8, none⟩ = some (.bool (softAt s 3)) ∧ w'.cell? ⟨wo.heap.size, 9, none⟩ = some (.int .i64 ((s : Int) + 4)) ∧ w'.cell? ⟨wo.heap.size, 10, none⟩ = some (.bool (softAt s 4)) ∧ w'.cell? ⟨wo.heap.size, 11, none⟩ = some (.int .i64 ((s : Int) + 5)) ∧ w'.cell? ⟨wo.heap.size, 12, none⟩ = some (.bool (softAt s 5))) (ds := [10]) #[F,F,F,F,F,F,F,F,F,F,F] (by kernel_rfl) rfl rfl ⟨pT, p0, p1, p2, p3, p4, p5, p6, p7, p8, p9, p10, p11, p12⟩ (fun hHeld => ?_)
     clear pT p0 p1 p2 p3 p4 p5 p6 p7 p8 p9 p10 p11 p12
     have HO3 := am (Kd.R_drew HO2.out)
     have HB3 := am (below_drew1 HB2.out)
     have HV3 := am (blk_drew HV.out)
     have HK3 := am (blk_drew HK2.out)
     clear HO2 HB2 HV HK2
     generalize wr.drew = w5 at HO3 HB3 HV3 HK3 hHeld ⊢
     refine pz 0 (some 40) #[T,F,F,F,F,F,F,F,F,F,F] (by kernel_rfl) (h := ?_)
     refine pz 1 (some 41) #[T,T,F,F,F,F,F,F,F,F,F] (by kernel_rfl) (h := ?_)
     refine pz 2 (some 42) #[T,T,T,F,F,F,F,F,F,F,F] (by kernel_rfl) (h := ?_)
     refine pz 3 (some 43) #[T,T,T,T,F,F,F,F,F,F,F] (by kernel_rfl) (h := ?_)
     refine tz hHeld 4 (some 44) #[T,T,T,T,T,F,F,F,F,F,F] (by kernel_rfl) (h := ?_)
     refine tz hHeld 5 (some 45) #[T,T,T,T,T,T,F,F,F,F,F] (by kernel_rfl) (h := ?_)
     refine one_ (i := 6) (N := some 46) #[T,T,T,T,T,T,T,F,F,F,F] rfl rfl (by kernel_rfl) (by decide) (fun K hK => ?_)
     refine value_ (w1 := ?_) (v := ?_) (by rfl) rfl ?_ ?_
     rotate_left 2
     ·go_simp
      constructor
      ·rfl
      ·rfl
     refine hK.out _ _ ⟨blk_cell (blk_alloc HK3.out _) 0, (blk_cell (blk_alloc HV3.out _) 0).trans (by simp [hexL, hexT, hexB]), (blk_cell (blk_alloc HV3.out _) 1).trans (by simp [hexL, hexT, hexB]), (blk_cell (blk_alloc HV3.out _) 2).trans (by simp [hexL, hexT, hexB]), (blk_cell (blk_alloc HV3.out _) 3).trans (by simp [hexL, hexT, hexB]), (blk_cell (blk_alloc HV3.out _) 4).trans (by simp [hexL, hexT, hexB]), (blk_cell (blk_alloc HV3.out _) 5).trans (by simp [hexL, hexT, hexB]), (blk_cell (blk_alloc HV3.out _) 6).trans (by simp [hexL, hexT, hexB]), (blk_cell (blk_alloc HV3.out _) 7).trans (by simp [hexL, hexT, hexB]), (blk_cell (blk_alloc HV3.out _) 8).trans (by simp [hexL, hexT, hexB]), (blk_cell (blk_alloc HV3.out _) 9).trans (by simp [hexL, hexT, hexB]), (blk_cell (blk_alloc HV3.out _) 10).trans (by simp [hexL, hexT, hexB]), (blk_cell (blk_alloc HV3.out _) 11).trans (by simp [hexL, hexT, hexB]), (blk_cell (blk_alloc HV3.out _) 12).trans (by simp [hexL, hexT, hexB])⟩ (fun hHeld => ?_)
     clear hK K
     refine norm_ (a' := ?_) ?_ ?_
     rotate_left
     ·show Act.put _ (some 46) _ = _
      simp only [Act.put, sA, sZ, sS, i64_w, i32_w]
      rfl
     refine one_ (i := 7) (N := some 47) #[T,T,T,T,T,T,T,T,F,F,F] rfl rfl (by kernel_rfl) (by decide) (fun K hK => ?_)
     refine Kd.R_append_step kHex (w0 := w) w.heap.size (by rfl) (.tmp 44) (.tmp 46) 168 173 (.agg #[.int .i64 0, .int .i64 0, .bool false, .int .i64 0, .bool false, .int .i64 0, .bool false, .int .i64 0, .bool false, .int .i64 0, .bool false, .int .i64 0, .bool false]) 104 rfl Tryz.underlying168 hexInfo rfl (by decide) (by omega) (.slice A (hexS s).length c) (hexS s) s [.int .i64 (s : Int), .int .i64 (s : Int), .bool (softAt s 0), .int .i64 ((s : Int) + 1), .bool (softAt s 1), .int .i64 ((s : Int) + 2), .bool (softAt s 2), .int .i64 ((s : Int) + 3), .bool (softAt s 3), .int .i64 ((s : Int) + 4), .bool (softAt s 4), .int .i64 ((s : Int) + 5), .bool (softAt s 5)] (fun k => k ≠ w.heap.size ∧ (k < wo.heap.size ∨ wo.heap.size < k)) (fun _ => False) rfl rfl ?aP (fun _ hk => hk.elim) ?aF ?aO ?aB ?aS ?aL ?_
     (case aP => show _ = hexL s 6; simp [hexL, hexT, hexB])
     (case aB => exact HB3.out)
     (case aF => exact (fun k hk => ⟨by have := blk_lt HV3.out; omega, .inr (by have := blk_lt HV3.out; omega)⟩))
     (case aO => exact Kd.R_mono HO3.out (fun k h => ⟨h.1, .inl h.2⟩))
     (case aS => exact (below_size HB3.out))
     (case aL => omega)
     intro v1 w6 ho hb hg hat
     have nT : some w.heap.size ≠ (Value.slice A (hexS s).length c).ownBlock := fun e => (HO3.out.1 _ e.symm).1 rfl
     have nV : some wo.heap.size ≠ (Value.slice A (hexS s).length c).ownBlock := fun e => by have := (HO3.out.1 _ e.symm).2; omega
     have HV4 := am (blk_grown HV3.out hg nV)
     have HK4 := am (blk_grown HK3.out hg nT)
     have HO4 := am ho
     have HB4 := am hb
     clear HO3 HB3 HV3 HK3 nT nV ho hb hg hat
     obtain ⟨A1, c1, e1⟩ := Kd.R_slice HO4.out
     subst e1
     refine hK.out _ _ ⟨blk_cell HK4.out 0, (blk_cell HV4.out 0).trans (by simp [hexL, hexT, hexB]), (blk_cell HV4.out 1).trans (by simp [hexL, hexT, hexB]), (blk_cell HV4.out 2).trans (by simp [hexL, hexT, hexB]), (blk_cell HV4.out 3).trans (by simp [hexL, hexT, hexB]), (blk_cell HV4.out 4).trans (by simp [hexL, hexT, hexB]), (blk_cell HV4.out 5).trans (by simp [hexL, hexT, hexB]), (blk_cell HV4.out 6).trans (by simp [hexL, hexT, hexB]), (blk_cell HV4.out 7).trans (by simp [hexL, hexT, hexB]), (blk_cell HV4.out 8).trans (by simp [hexL, hexT, hexB]), (blk_cell HV4.out 9).trans (by simp [hexL, hexT, hexB]), (blk_cell HV4.out 10).trans (by simp [hexL, hexT, hexB]), (blk_cell HV4.out 11).trans (by simp [hexL, hexT, hexB]), (blk_cell HV4.out 12).trans (by simp [hexL, hexT, hexB])⟩ (fun hHeld => ?_)
     clear hK K
     refine norm_ (a' := ?_) ?_ ?_
     rotate_left
     ·show Act.put _ (some 47) _ = _
      simp only [Act.put, sA, sZ, sS, i64_w, i32_w]
      rfl
     refine pz 8 (some 48) #[T,T,T,T,T,T,T,T,T,F,F] (by kernel_rfl) (h := ?_)
     refine pz 9 (some 49) #[T,T,T,T,T,T,T,T,T,T,F] (by kernel_rfl) (h := ?_)
     clear hHeld
     have q0 := blk_cell HK4.out 0
     have qf := fun i => blk_frozen HK4.out i
     refine last_ (i := 10) (N := none) #[T,T,T,T,T,T,T,T,T,T,T] rfl rfl (by kernel_rfl) (by decide) (fun K hK => ?_)
     refine skip_ (w1 := ?_) (by rfl) rfl ?_ ?_
     rotate_left
     ·go_simp
      rfl
     refine hK.out _ _ ?_
     clear hK K
     refine done_ (by kernel_rfl) ?_
     clear q0 qf
     go_wp2_with fail
     go_roundg (20 - (s + 1))
     case measure => have := HS.out; omega
     case rel =>
      refine ⟨s + 1, _, by simp, ⟨by omega, by have := HS.out; omega⟩, ⟨blk_put HK4.out 0 _ rfl⟩, ⟨?_⟩, ⟨below_set HB4.out (Nat.le_refl _)⟩⟩
      rw [hexS_step s hs, if_pos (by have := HX.out; omega)]
      have HO5 := HO4.out
      rw [show (hexS s ++ [s]).length = (hexS s).length + 1 by simp] at HO5
      exact Kd.R_far (p := ⟨w.heap.size, 0, none⟩) (Kd.R_mono HO5 (fun k h => h.1)) (fun k h => h) _
   ·have e0 : kindStr (s % 7) = ⟨#[]⟩ := by
     rcases hx with h | h | h | h <;> rw [h] <;> rfl
    have HX := am hx
    have E0 := am e0
    clear hx e0
    go_wp2_with fail
    refine (kindAt_eq s ⟨#[]⟩ E0.out _ (HT.out.below HB.out)).mono ?_
    rintro e w1 ⟨rfl, rfl⟩
    go_wp2
    go_roundg (20 - (s + 1))
    case measure => have := HS.out; omega
    case rel =>
     refine ⟨s + 1, u, by simp, ⟨by omega, by have := HS.out; omega⟩, HK, ⟨?_⟩, HB⟩
     rw [hexS_step s hs, if_neg (by have := HX.out; omega)]
     exact HO.out
  go_wp2
  go_ret
  have e : s = 16 := by omega
  have hR := HO.out
  rw [e] at hR
  exact ⟨_, u, rfl, HK.out, hR, HB.out, Nat.le_refl _⟩
/-- The table of hexachords at block g: its rows from address ad on. -/
structure HexTab (w : World) (g : Nat) (ad : Addr) (c : Nat) : Prop where
 cell : w.cell? ⟨g, 0, none⟩ = some (.slice (some ad) 7 c)
 cap : 7 ≤ c
 row : ∀ k, k < 7 → ∀ (i : Nat) (v : Value), (hexL (hexAll.getD k 0) 6)[i]? = some v → w.cell? (ad.add (k * 13 + i)) = some v
theorem HexTab.below {w w1 : World} {g : Nat} {ad : Addr} {c : Nat} (h : HexTab w g ad c) (hb : Below w.heap.size w w1) : HexTab w1 g ad c :=
 ⟨(hb.cell (World.block_lt_of_cell? _ _ h.cell)).trans h.cell, h.cap, fun k hk i v hv => (hb.cell (World.block_lt_of_cell? _ _ (h.row k hk i v hv))).trans (h.row k hk i v hv)⟩
theorem hexachords_tab (w : World) (hT : TabL w) : Calls Tryz.prog 105 #[] w fun e w' => ∃ (g : Nat) (ad : Addr) (c : Nat), e = .returned (.pointer (some ⟨g, 0, none⟩)) ∧ HexTab w' g ad c ∧ Below w.heap.size w w' := by
 refine (hexachords_any w hT).mono ?_
 rintro e w' ⟨g, v, rfl, hg, hR, hb, _⟩
 obtain ⟨A, c, rfl⟩ := Kd.R_slice hR
 obtain ⟨_, hc, hC⟩ := Kd.R_reads' hR
 obtain ⟨ad, _, rfl, _⟩ := Kd.C_get hC 0 0 (by decide) (by decide)
 refine ⟨g, ad, c, rfl, ⟨blk_cell hg 0, hc, fun k hk i v hv => ?_⟩, hb⟩
 obtain ⟨ad', cs, e1, _, hK, hcell⟩ := Kd.C_get hC 0 (k : Int) (by omega) (by show (k : Int) < 7; omega)
 obtain rfl := Option.some.inj e1
 have hK2 : cs = hexL (hexAll.getD k 0) 6 := by
  rw [Int.toNat_natCast] at hK
  exact hK
 have := hcell i v (by rw [hK2]; exact hv)
 rw [Int.toNat_natCast] at this
 exact this
theorem hexAt_none {w : World} {g : Nat} {ad : Addr} {c : Nat} (h : HexTab w g ad c) (x : Int) (hx : ∀ k, k < 7 → ((hexAll.getD k 0 : Nat) : Int) ≠ x) :
  Calls Tryz.prog 106 #[.pointer (some ⟨g, 0, none⟩), .int .i64 x] w fun e w' => e = .returned (.pointer none) ∧ w = w' := by
 have hu1 := Tryz.underlying170
 have hu2 := Tryz.underlying173
 have H := am h
 have hc := h.cell
 have HX := am hx
 clear h hx
 go_enter Tryz.func106, Tryz.ntmps106
 go_wp2
 go_loopg [11] 7 (fun kq v11 w' => ∃ i : Nat, v11 = .int .i64 (i : Int) ∧ Aside0 (i ≤ 7 ∧ kq = 7 - i) ∧ w = w')
 case atStart => exact ⟨0, rfl, ⟨by omega, by omega⟩, rfl⟩
 case round =>
  obtain ⟨i, rfl, HI, rfl⟩ := hrel
  by_cases hi : i < 7
  case neg => go_wp2; go_ret; exact ⟨rfl, rfl⟩
  have d0 := H.out.row i hi 0 _ rfl
  simp only [Nat.add_zero] at d0
  have hne : ((((hexAll.getD i 0 : Nat) : Int)) == x) = false := by rw [beq_eq_false_iff_ne]; exact HX.out i hi
  generalize ((hexAll.getD i 0 : Nat) : Int) = y at *
  go_wp2
  go_roundg (7 - (i + 1))
  case measure => have := HI.out; omega
  case rel => exact ⟨i + 1, by simp, ⟨by omega, rfl⟩, rfl⟩
theorem hexAt_some {w : World} {g : Nat} {ad : Addr} {c : Nat} (h : HexTab w g ad c) (x : Int) (k : Nat) (hk : k < 7) (hx : ((hexAll.getD k 0 : Nat) : Int) = x) :
  Calls Tryz.prog 106 #[.pointer (some ⟨g, 0, none⟩), .int .i64 x] w fun e w' => e = .returned (.pointer (some (ad.add (k * 13)))) ∧ w = w' := by
 have hu1 := Tryz.underlying170
 have hu2 := Tryz.underlying173
 have H := am h
 have hc := h.cell
 have HX := am hx
 clear h hx
 go_enter Tryz.func106, Tryz.ntmps106
 go_wp2
 go_loopg [11] 7 (fun kq v11 w' => ∃ i : Nat, v11 = .int .i64 (i : Int) ∧ Aside0 (i ≤ k ∧ kq = 7 - i) ∧ w = w')
 case atStart => exact ⟨0, rfl, ⟨by omega, by omega⟩, rfl⟩
 case round =>
  obtain ⟨i, rfl, HI, rfl⟩ := hrel
  have hi : i < 7 := by have := HI.out; omega
  have d0 := H.out.row i hi 0 _ rfl
  simp only [Nat.add_zero] at d0
  by_cases hik : i = k
  ·have hne : ((((hexAll.getD i 0 : Nat) : Int)) == x) = true := by rw [beq_iff_eq, hik]; exact HX.out
   generalize ((hexAll.getD i 0 : Nat) : Int) = y at *
   have HK := am hik
   clear hik
   go_wp2
   go_ret
   rw [HK.out]
   exact ⟨rfl, rfl⟩
  have hne : ((((hexAll.getD i 0 : Nat) : Int)) == x) = false := by
   rw [beq_eq_false_iff_ne, ← HX.out]
   have h1 : ∀ i, i < 7 → ∀ k, k < 7 → i ≠ k → ((hexAll.getD i 0 : Nat) : Int) ≠ ((hexAll.getD k 0 : Nat) : Int) := by decide
   exact h1 i hi k hk hik
  generalize ((hexAll.getD i 0 : Nat) : Int) = y at *
  have hik2 : i < k := by have := HI.out; omega
  clear hik
  go_wp2
  go_roundg (7 - (i + 1))
  case measure => have := HI.out; omega
  case rel => exact ⟨i + 1, by simp, ⟨by omega, rfl⟩, rfl⟩
def sylGo (s : Nat) (a : Int) (b : Bool) : Nat → Nat → Int
 | 0, _ => -1
 | n + 1, i => if ((s : Int) + (i : Int) == a && (softAt s i == b)) = true then (i : Int) else sylGo s a b n (i + 1)
theorem sylGo_step (s : Nat) (a : Int) (b : Bool) (n i : Nat) : sylGo s a b (n + 1) i = if ((s : Int) + (i : Int) == a && (softAt s i == b)) = true then (i : Int) else sylGo s a b n (i + 1) := rfl
/-- The syllable of a tone in the hexachord that begins at s, or -1. -/
def sylOf (s : Nat) (a : Int) (b : Bool) : Int := sylGo s a b 6 0
section
theorem eqTon (d : Nat) (w : World) (x0 y0 : Int) (x1 y1 : Bool) :
  (Op.equalIn (d + 2) 74 (.agg #[.int .i64 x0, .bool x1]) (.agg #[.int .i64 y0, .bool y1])).run Tryz.prog w = .ok (x0 == y0 && (x1 == y1)) w := by
 refine eqA_of Tryz.underlying74 (by kernel_rfl) ?_
 refine eqf_cons (by rfl) (by go_simp; rfl) (by go_simp; rfl) (by go_simp) ?_
 exact eqf_last (by rfl) (by go_simp; rfl) (by go_simp; rfl) (by go_simp)
attribute [local go_sem high] eqTon
theorem syllable_any (p : Addr) (s : Nat) (a : Int) (b : Bool) (w : World) (h : ∀ (i : Nat) (v : Value), (hexL s 6)[i]? = some v → w.cell? (p.add i) = some v) :
  Calls Tryz.prog 107 #[.pointer (some p), .agg #[.int .i64 a, .bool b]] w fun e w' => e = .returned (.int .i64 (sylOf s a b)) ∧ Below w.heap.size w w' := by
 have hu1 := Tryz.underlying173
 have hu2 := Tryz.underlying74
 obtain ⟨y0, hy0⟩ : ∃ y, y = (s : Int) + ((0 : Nat) : Int) := ⟨_, rfl⟩
 obtain ⟨y1, hy1⟩ : ∃ y, y = (s : Int) + ((1 : Nat) : Int) := ⟨_, rfl⟩
 obtain ⟨y2, hy2⟩ : ∃ y, y = (s : Int) + ((2 : Nat) : Int) := ⟨_, rfl⟩
 obtain ⟨y3, hy3⟩ : ∃ y, y = (s : Int) + ((3 : Nat) : Int) := ⟨_, rfl⟩
 obtain ⟨y4, hy4⟩ : ∃ y, y = (s : Int) + ((4 : Nat) : Int) := ⟨_, rfl⟩
 obtain ⟨y5, hy5⟩ : ∃ y, y = (s : Int) + ((5 : Nat) : Int) := ⟨_, rfl⟩
 obtain ⟨c0, hc0⟩ : ∃ y, y = softAt s 0 := ⟨_, rfl⟩
 obtain ⟨c1, hc1⟩ : ∃ y, y = softAt s 1 := ⟨_, rfl⟩
 obtain ⟨c2, hc2⟩ : ∃ y, y = softAt s 2 := ⟨_, rfl⟩
 obtain ⟨c3, hc3⟩ : ∃ y, y = softAt s 3 := ⟨_, rfl⟩
 obtain ⟨c4, hc4⟩ : ∃ y, y = softAt s 4 := ⟨_, rfl⟩
 obtain ⟨c5, hc5⟩ : ∃ y, y = softAt s 5 := ⟨_, rfl⟩
 have g0 : (w.alloc (.cells #[.int .i64 a, .bool b] 74)).cell? ⟨p.block, p.off + 1, none⟩ = some (.int .i64 y0) := by
  have e := h 1 (.int .i64 y0) (by rw [hy0]; rfl)
  rw [← e]
  exact (below_alloc (Below.refl _ _) _).cell (p := ⟨p.block, p.off + 1, none⟩) (World.block_lt_of_cell? _ (p.add 1) e)
 have g1 : (w.alloc (.cells #[.int .i64 a, .bool b] 74)).cell? ⟨p.block, p.off + 2, none⟩ = some (.bool c0) := by
  have e := h 2 (.bool c0) (by rw [hc0]; rfl)
  rw [← e]
  exact (below_alloc (Below.refl _ _) _).cell (p := ⟨p.block, p.off + 2, none⟩) (World.block_lt_of_cell? _ (p.add 2) e)
 have g2 : (w.alloc (.cells #[.int .i64 a, .bool b] 74)).cell? ⟨p.block, p.off + 3, none⟩ = some (.int .i64 y1) := by
  have e := h 3 (.int .i64 y1) (by rw [hy1]; rfl)
  rw [← e]
  exact (below_alloc (Below.refl _ _) _).cell (p := ⟨p.block, p.off + 3, none⟩) (World.block_lt_of_cell? _ (p.add 3) e)
 have g3 : (w.alloc (.cells #[.int .i64 a, .bool b] 74)).cell? ⟨p.block, p.off + 4, none⟩ = some (.bool c1) := by
  have e := h 4 (.bool c1) (by rw [hc1]; rfl)
  rw [← e]
  exact (below_alloc (Below.refl _ _) _).cell (p := ⟨p.block, p.off + 4, none⟩) (World.block_lt_of_cell? _ (p.add 4) e)
 have g4 : (w.alloc (.cells #[.int .i64 a, .bool b] 74)).cell? ⟨p.block, p.off + 5, none⟩ = some (.int .i64 y2) := by
  have e := h 5 (.int .i64 y2) (by rw [hy2]; rfl)
  rw [← e]
  exact (below_alloc (Below.refl _ _) _).cell (p := ⟨p.block, p.off + 5, none⟩) (World.block_lt_of_cell? _ (p.add 5) e)
 have g5 : (w.alloc (.cells #[.int .i64 a, .bool b] 74)).cell? ⟨p.block, p.off + 6, none⟩ = some (.bool c2) := by
  have e := h 6 (.bool c2) (by rw [hc2]; rfl)
  rw [← e]
  exact (below_alloc (Below.refl _ _) _).cell (p := ⟨p.block, p.off + 6, none⟩) (World.block_lt_of_cell? _ (p.add 6) e)
 have g6 : (w.alloc (.cells #[.int .i64 a, .bool b] 74)).cell? ⟨p.block, p.off + 7, none⟩ = some (.int .i64 y3) := by
  have e := h 7 (.int .i64 y3) (by rw [hy3]; rfl)
  rw [← e]
  exact (below_alloc (Below.refl _ _) _).cell (p := ⟨p.block, p.off + 7, none⟩) (World.block_lt_of_cell? _ (p.add 7) e)
 have g7 : (w.alloc (.cells #[.int .i64 a, .bool b] 74)).cell? ⟨p.block, p.off + 8, none⟩ = some (.bool c3) := by
  have e := h 8 (.bool c3) (by rw [hc3]; rfl)
  rw [← e]
  exact (below_alloc (Below.refl _ _) _).cell (p := ⟨p.block, p.off + 8, none⟩) (World.block_lt_of_cell? _ (p.add 8) e)
 have g8 : (w.alloc (.cells #[.int .i64 a, .bool b] 74)).cell? ⟨p.block, p.off + 9, none⟩ = some (.int .i64 y4) := by
  have e := h 9 (.int .i64 y4) (by rw [hy4]; rfl)
  rw [← e]
  exact (below_alloc (Below.refl _ _) _).cell (p := ⟨p.block, p.off + 9, none⟩) (World.block_lt_of_cell? _ (p.add 9) e)
 have g9 : (w.alloc (.cells #[.int .i64 a, .bool b] 74)).cell? ⟨p.block, p.off + 10, none⟩ = some (.bool c4) := by
  have e := h 10 (.bool c4) (by rw [hc4]; rfl)
  rw [← e]
  exact (below_alloc (Below.refl _ _) _).cell (p := ⟨p.block, p.off + 10, none⟩) (World.block_lt_of_cell? _ (p.add 10) e)
 have g10 : (w.alloc (.cells #[.int .i64 a, .bool b] 74)).cell? ⟨p.block, p.off + 11, none⟩ = some (.int .i64 y5) := by
  have e := h 11 (.int .i64 y5) (by rw [hy5]; rfl)
  rw [← e]
  exact (below_alloc (Below.refl _ _) _).cell (p := ⟨p.block, p.off + 11, none⟩) (World.block_lt_of_cell? _ (p.add 11) e)
 have g11 : (w.alloc (.cells #[.int .i64 a, .bool b] 74)).cell? ⟨p.block, p.off + 12, none⟩ = some (.bool c5) := by
  have e := h 12 (.bool c5) (by rw [hc5]; rfl)
  rw [← e]
  exact (below_alloc (Below.refl _ _) _).cell (p := ⟨p.block, p.off + 12, none⟩) (World.block_lt_of_cell? _ (p.add 12) e)
 have HS : Aside0 ((y0 = (s : Int) + ((0 : Nat) : Int) ∧ c0 = softAt s 0) ∧ (y1 = (s : Int) + ((1 : Nat) : Int) ∧ c1 = softAt s 1) ∧ (y2 = (s : Int) + ((2 : Nat) : Int) ∧ c2 = softAt s 2) ∧ (y3 = (s : Int) + ((3 : Nat) : Int) ∧ c3 = softAt s 3) ∧ (y4 = (s : Int) + ((4 : Nat) : Int) ∧ c4 = softAt s 4) ∧ (y5 = (s : Int) + ((5 : Nat) : Int) ∧ c5 = softAt s 5)) := ⟨⟨hy0, hc0⟩, ⟨hy1, hc1⟩, ⟨hy2, hc2⟩, ⟨hy3, hc3⟩, ⟨hy4, hc4⟩, ⟨hy5, hc5⟩⟩
 clear h hy0 hc0 hy1 hc1 hy2 hc2 hy3 hc3 hy4 hc4 hy5 hc5
 have i0 : ∀ W : World, (Instr.index 171 (.agg #[.int .i64 y0, .bool c0, .int .i64 y1, .bool c1, .int .i64 y2, .bool c2, .int .i64 y3, .bool c3, .int .i64 y4, .bool c4, .int .i64 y5, .bool c5]) (.int .i64 0)).run Tryz.prog W = .ok (.agg #[.int .i64 y0, .bool c0]) W := fun _ => by kernel_rfl
 have i1 : ∀ W : World, (Instr.index 171 (.agg #[.int .i64 y0, .bool c0, .int .i64 y1, .bool c1, .int .i64 y2, .bool c2, .int .i64 y3, .bool c3, .int .i64 y4, .bool c4, .int .i64 y5, .bool c5]) (.int .i64 1)).run Tryz.prog W = .ok (.agg #[.int .i64 y1, .bool c1]) W := fun _ => by kernel_rfl
 have i2 : ∀ W : World, (Instr.index 171 (.agg #[.int .i64 y0, .bool c0, .int .i64 y1, .bool c1, .int .i64 y2, .bool c2, .int .i64 y3, .bool c3, .int .i64 y4, .bool c4, .int .i64 y5, .bool c5]) (.int .i64 2)).run Tryz.prog W = .ok (.agg #[.int .i64 y2, .bool c2]) W := fun _ => by kernel_rfl
 have i3 : ∀ W : World, (Instr.index 171 (.agg #[.int .i64 y0, .bool c0, .int .i64 y1, .bool c1, .int .i64 y2, .bool c2, .int .i64 y3, .bool c3, .int .i64 y4, .bool c4, .int .i64 y5, .bool c5]) (.int .i64 3)).run Tryz.prog W = .ok (.agg #[.int .i64 y3, .bool c3]) W := fun _ => by kernel_rfl
 have i4 : ∀ W : World, (Instr.index 171 (.agg #[.int .i64 y0, .bool c0, .int .i64 y1, .bool c1, .int .i64 y2, .bool c2, .int .i64 y3, .bool c3, .int .i64 y4, .bool c4, .int .i64 y5, .bool c5]) (.int .i64 4)).run Tryz.prog W = .ok (.agg #[.int .i64 y4, .bool c4]) W := fun _ => by kernel_rfl
 have i5 : ∀ W : World, (Instr.index 171 (.agg #[.int .i64 y0, .bool c0, .int .i64 y1, .bool c1, .int .i64 y2, .bool c2, .int .i64 y3, .bool c3, .int .i64 y4, .bool c4, .int .i64 y5, .bool c5]) (.int .i64 5)).run Tryz.prog W = .ok (.agg #[.int .i64 y5, .bool c5]) W := fun _ => by kernel_rfl
 go_enter Tryz.func107, Tryz.ntmps107
 go_wp2
 go_loopg [11] 6 (fun kq v11 w' => ∃ i : Nat, v11 = .int .i64 (i : Int) ∧ Aside0 (i ≤ 6 ∧ kq = 6 - i) ∧ Aside0 (sylGo s a b (6 - i) i = sylOf s a b) ∧ Aside0 (w'.heap[w.heap.size]? = some (.cells #[.int .i64 a, .bool b] 74 (0, 0))) ∧ Aside0 (Below w.heap.size w w'))
 case atStart => exact ⟨0, rfl, ⟨by omega, by omega⟩, ⟨rfl⟩, ⟨blk_new _ _⟩, ⟨below_alloc (Below.refl _ _) _⟩⟩
 case round =>
  clear g0 g1 g2 g3 g4 g5 g6 g7 g8 g9 g10 g11
  obtain ⟨i, rfl, HI, HG, HK, HB⟩ := hrel
  have k0 : wr.cell? ⟨w.heap.size, 0, none⟩ = some (.int .i64 a) := blk_cell HK.out 0
  have k1 : wr.cell? ⟨w.heap.size, 1, none⟩ = some (.bool b) := blk_cell HK.out 1
  have hlt : w.heap.size < wr.heap.size := blk_lt HK.out
  have hi : i = 0 ∨ i = 1 ∨ i = 2 ∨ i = 3 ∨ i = 4 ∨ i = 5 ∨ i = 6 := by have := HI.out.1; omega
  rcases hi with rfl | rfl | rfl | rfl | rfl | rfl | rfl
  ·by_cases hq : (y0 == a && (c0 == b)) = true
   ·go_wp2
    go_ret
    refine ⟨?_, by repeat (first | exact HB.out | apply below_alloc | apply below_drew1 | apply pw_below_drewN)⟩
    rw [← HG.out]
    simp only [sylGo]
    rw [← HS.out.1.1, ← HS.out.1.2, if_pos hq]
    rfl
   ·have hq2 : (y0 == a && (c0 == b)) = false := Bool.eq_false_iff.mpr hq
    clear hq
    go_wp2
    go_roundg 5
    case measure => have := HI.out; omega
    case rel =>
     refine ⟨1, by simp, ⟨by omega, rfl⟩, ⟨?_⟩, ⟨by repeat (first | exact HK.out | refine blk_alloc ?_ _ | refine blk_drew ?_ | refine blk_drewN ?_ _)⟩, ⟨by repeat (first | exact HB.out | apply below_alloc | apply below_drew1 | apply pw_below_drewN)⟩⟩
     rw [← HG.out]
     refine ((sylGo_step s a b 5 0).trans ?_).symm
     rw [← HS.out.1.1, ← HS.out.1.2, if_neg (by rw [hq2]; simp)]
  ·by_cases hq : (y1 == a && (c1 == b)) = true
   ·go_wp2
    go_ret
    refine ⟨?_, by repeat (first | exact HB.out | apply below_alloc | apply below_drew1 | apply pw_below_drewN)⟩
    rw [← HG.out]
    simp only [sylGo]
    rw [← HS.out.2.1.1, ← HS.out.2.1.2, if_pos hq]
    rfl
   ·have hq2 : (y1 == a && (c1 == b)) = false := Bool.eq_false_iff.mpr hq
    clear hq
    go_wp2
    go_roundg 4
    case measure => have := HI.out; omega
    case rel =>
     refine ⟨2, by simp, ⟨by omega, rfl⟩, ⟨?_⟩, ⟨by repeat (first | exact HK.out | refine blk_alloc ?_ _ | refine blk_drew ?_ | refine blk_drewN ?_ _)⟩, ⟨by repeat (first | exact HB.out | apply below_alloc | apply below_drew1 | apply pw_below_drewN)⟩⟩
     rw [← HG.out]
     refine ((sylGo_step s a b 4 1).trans ?_).symm
     rw [← HS.out.2.1.1, ← HS.out.2.1.2, if_neg (by rw [hq2]; simp)]
  ·by_cases hq : (y2 == a && (c2 == b)) = true
   ·go_wp2
    go_ret
    refine ⟨?_, by repeat (first | exact HB.out | apply below_alloc | apply below_drew1 | apply pw_below_drewN)⟩
    rw [← HG.out]
    simp only [sylGo]
    rw [← HS.out.2.2.1.1, ← HS.out.2.2.1.2, if_pos hq]
    rfl
   ·have hq2 : (y2 == a && (c2 == b)) = false := Bool.eq_false_iff.mpr hq
    clear hq
    go_wp2
    go_roundg 3
    case measure => have := HI.out; omega
    case rel =>
     refine ⟨3, by simp, ⟨by omega, rfl⟩, ⟨?_⟩, ⟨by repeat (first | exact HK.out | refine blk_alloc ?_ _ | refine blk_drew ?_ | refine blk_drewN ?_ _)⟩, ⟨by repeat (first | exact HB.out | apply below_alloc | apply below_drew1 | apply pw_below_drewN)⟩⟩
     rw [← HG.out]
     refine ((sylGo_step s a b 3 2).trans ?_).symm
     rw [← HS.out.2.2.1.1, ← HS.out.2.2.1.2, if_neg (by rw [hq2]; simp)]
  ·by_cases hq : (y3 == a && (c3 == b)) = true
   ·go_wp2
    go_ret
    refine ⟨?_, by repeat (first | exact HB.out | apply below_alloc | apply below_drew1 | apply pw_below_drewN)⟩
    rw [← HG.out]
    simp only [sylGo]
    rw [← HS.out.2.2.2.1.1, ← HS.out.2.2.2.1.2, if_pos hq]
    rfl
   ·have hq2 : (y3 == a && (c3 == b)) = false := Bool.eq_false_iff.mpr hq
    clear hq
    go_wp2
    go_roundg 2
    case measure => have := HI.out; omega
    case rel =>
     refine ⟨4, by simp, ⟨by omega, rfl⟩, ⟨?_⟩, ⟨by repeat (first | exact HK.out | refine blk_alloc ?_ _ | refine blk_drew ?_ | refine blk_drewN ?_ _)⟩, ⟨by repeat (first | exact HB.out | apply below_alloc | apply below_drew1 | apply pw_below_drewN)⟩⟩
     rw [← HG.out]
     refine ((sylGo_step s a b 2 3).trans ?_).symm
     rw [← HS.out.2.2.2.1.1, ← HS.out.2.2.2.1.2, if_neg (by rw [hq2]; simp)]
  ·by_cases hq : (y4 == a && (c4 == b)) = true
   ·go_wp2
    go_ret
    refine ⟨?_, by repeat (first | exact HB.out | apply below_alloc | apply below_drew1 | apply pw_below_drewN)⟩
    rw [← HG.out]
    simp only [sylGo]
    rw [← HS.out.2.2.2.2.1.1, ← HS.out.2.2.2.2.1.2, if_pos hq]
    rfl
   ·have hq2 : (y4 == a && (c4 == b)) = false := Bool.eq_false_iff.mpr hq
    clear hq
    go_wp2
    go_roundg 1
    case measure => have := HI.out; omega
    case rel =>
     refine ⟨5, by simp, ⟨by omega, rfl⟩, ⟨?_⟩, ⟨by repeat (first | exact HK.out | refine blk_alloc ?_ _ | refine blk_drew ?_ | refine blk_drewN ?_ _)⟩, ⟨by repeat (first | exact HB.out | apply below_alloc | apply below_drew1 | apply pw_below_drewN)⟩⟩
     rw [← HG.out]
     refine ((sylGo_step s a b 1 4).trans ?_).symm
     rw [← HS.out.2.2.2.2.1.1, ← HS.out.2.2.2.2.1.2, if_neg (by rw [hq2]; simp)]
  ·by_cases hq : (y5 == a && (c5 == b)) = true
   ·go_wp2
    go_ret
    refine ⟨?_, by repeat (first | exact HB.out | apply below_alloc | apply below_drew1 | apply pw_below_drewN)⟩
    rw [← HG.out]
    simp only [sylGo]
    rw [← HS.out.2.2.2.2.2.1, ← HS.out.2.2.2.2.2.2, if_pos hq]
    rfl
   ·have hq2 : (y5 == a && (c5 == b)) = false := Bool.eq_false_iff.mpr hq
    clear hq
    go_wp2
    go_roundg 0
    case measure => have := HI.out; omega
    case rel =>
     refine ⟨6, by simp, ⟨by omega, rfl⟩, ⟨?_⟩, ⟨by repeat (first | exact HK.out | refine blk_alloc ?_ _ | refine blk_drew ?_ | refine blk_drewN ?_ _)⟩, ⟨by repeat (first | exact HB.out | apply below_alloc | apply below_drew1 | apply pw_below_drewN)⟩⟩
     rw [← HG.out]
     refine ((sylGo_step s a b 0 5).trans ?_).symm
     rw [← HS.out.2.2.2.2.2.1, ← HS.out.2.2.2.2.2.2, if_neg (by rw [hq2]; simp)]
  ·go_wp2
   go_ret
   exact ⟨by rw [← HG.out]; rfl, HB.out⟩
end
def isHex (x : Int) : Bool := hexAll.any (fun s => decide ((s : Int) = x))
theorem hex_cases (x : Int) : (isHex x = true ∧ ∃ k, k < 7 ∧ ((hexAll.getD k 0 : Nat) : Int) = x) ∨ (isHex x = false ∧ ∀ k, k < 7 → ((hexAll.getD k 0 : Nat) : Int) ≠ x) := by
 cases h : isHex x with
 | true =>
  left
  refine ⟨rfl, ?_⟩
  unfold isHex at h
  obtain ⟨s, hs, e⟩ := List.any_eq_true.1 h
  obtain ⟨k, hk, rfl⟩ := List.mem_iff_getElem.1 hs
  exact ⟨k, hk, by simpa [List.getD_eq_getElem?_getD, hk] using e⟩
 | false =>
  right
  refine ⟨rfl, fun k hk e => ?_⟩
  have hk' : k < hexAll.length := hk
  have : isHex x = true := List.any_eq_true.2 ⟨hexAll[k], List.getElem_mem hk', by simpa [List.getD_eq_getElem?_getD, hk'] using e⟩
  rw [h] at this
  exact absurd this (by decide)

/-! ### HexAll, by hand -/
structure HexTabT (w : World) (g : Nat) (ad : Addr) (c : Nat) : Prop where
 tab : HexTab w g ad c
 tg : ∃ cs, w.heap[g]? = some (.cells cs 170 (0, 0))
 ta : ∃ cs, w.heap[ad.block]? = some (.cells cs 173 (0, 0))
theorem HexTabT.below {w w1 : World} {g : Nat} {ad : Addr} {c : Nat} (h : HexTabT w g ad c) (hb : Below w.heap.size w w1) : HexTabT w1 g ad c := by
 obtain ⟨h1, ⟨x, hx⟩, ⟨y, hy⟩⟩ := h
 exact ⟨h1.below hb, ⟨x, blk_below hx hb⟩, ⟨y, blk_below hy hb⟩⟩
theorem HexTabT.grown {w w1 : World} {g : Nat} {ad : Addr} {c : Nat} {row : Option Nat} (h : HexTabT w g ad c) (hg : w.grownBy w1 row) (h1 : some g ≠ row) (h2 : some ad.block ≠ row) : HexTabT w1 g ad c := by
 obtain ⟨⟨a1, a2, a3⟩, ⟨x, hx⟩, ⟨y, hy⟩⟩ := h
 refine ⟨⟨cell_grown hg a1 h1, a2, fun k hk i v hv => cell_grown hg (a3 k hk i v hv) (by rw [add_block]; exact h2)⟩, ⟨x, blk_grown hx hg h1⟩, ⟨y, blk_grown hy hg h2⟩⟩
theorem hexachords_tabT (w : World) (hT : TabL w) : Calls Tryz.prog 105 #[] w fun e w' => ∃ (g : Nat) (ad : Addr) (c : Nat), e = .returned (.pointer (some ⟨g, 0, none⟩)) ∧ HexTabT w' g ad c ∧ Below w.heap.size w w' := by
 refine (hexachords_any w hT).mono ?_
 rintro e w' ⟨g, v, rfl, hg, hR, hb, _⟩
 obtain ⟨g2, cap, hf, _, _, cells, hcells⟩ := Kd.R_form hR (by decide)
 obtain ⟨A, c, rfl⟩ := Kd.R_slice hR
 obtain ⟨_, hc, hC⟩ := Kd.R_reads' hR
 obtain ⟨ad, _, rfl, _⟩ := Kd.C_get hC 0 0 (by decide) (by decide)
 injection hf with hf1 hf2 hf3
 injection hf1 with hf1
 subst hf1
 refine ⟨g, _, c, rfl, ⟨⟨blk_cell hg 0, hc, fun k hk i v hv => ?_⟩, ⟨_, hg⟩, ⟨cells, hcells⟩⟩, hb⟩
 obtain ⟨ad', cs, e1, _, hK, hcell⟩ := Kd.C_get hC 0 (k : Int) (by omega) (by show (k : Int) < 7; omega)
 obtain rfl := Option.some.inj e1
 have hK2 : cs = hexL (hexAll.getD k 0) 6 := by
  rw [Int.toNat_natCast] at hK
  exact hK
 have := hcell i v (by rw [hK2]; exact hv)
 rw [Int.toNat_natCast] at this
 exact this
theorem hex_row {w : World} {g : Nat} {ad : Addr} {c : Nat} (h : HexTabT w g ad c) (i : Nat) (hi : i < 7) : ∀ (j : Nat) (v : Value), (hexL (hexAll.getD i 0) 6)[j]? = some v → w.cell? ((ad.add (i * 13)).add j) = some v := fun j v hv => by
 rw [add_add]
 exact h.tab.row i hi j v hv
theorem syl_any {w : World} {g : Nat} {ad : Addr} {c : Nat} (h : HexTabT w g ad c) (i : Nat) (hi : i < 7) (a : Int) (b : Bool) (s : Int) (hs : sylOf (hexAll.getD i 0) a b = s) :
  Calls Tryz.prog 107 #[.pointer (some (ad.add (i * 13))), .agg #[.int .i64 a, .bool b]] w fun e w' => e = .returned (.int .i64 s) ∧ Below w.heap.size w w' :=
 hs ▸ syllable_any (ad.add (i * 13)) (hexAll.getD i 0) a b w (hex_row h i hi)
/-- The first n hexachords that have a tone, by their starts. -/
def hexOf (a : Int) (b : Bool) (n : Nat) : List Int := ((hexAll.take n).filter (fun s => decide (0 ≤ sylOf s a b))).map (fun s : Nat => (s : Int))
theorem hexOf_step (a : Int) (b : Bool) (i : Nat) (hi : i < 7) : hexOf a b (i + 1) = if 0 ≤ sylOf (hexAll.getD i 0) a b then hexOf a b i ++ [((hexAll.getD i 0 : Nat) : Int)] else hexOf a b i := by
 have hl : i < hexAll.length := hi
 have e : hexAll.getD i 0 = hexAll[i] := by simp [List.getD_eq_getElem?_getD, hl]
 unfold hexOf
 rw [List.take_succ_eq_append_getElem hl, List.filter_append, List.map_append, e]
 by_cases h : 0 ≤ sylOf hexAll[i] a b
 ·rw [if_pos h]
  simp [h]
 ·rw [if_neg h]
  simp [h]
theorem hexOf_len (a : Int) (b : Bool) (n : Nat) : (hexOf a b n).length ≤ 7 := by
 unfold hexOf
 rw [List.length_map]
 have h1 := List.length_filter_le (fun s : Nat => decide (0 ≤ sylOf s a b)) (hexAll.take n)
 have h2 : (hexAll.take n).length ≤ 7 := by rw [List.length_take]; exact Nat.min_le_right _ _
 omega
theorem R_empty2 {α : Type} (d : Kd α) (e : Nat) {W : World} {g base : Nat} (ok : Nat → Prop) (hok : ok g) (h : W.heap[g]? = some (.cells #[] e (0, 0))) (hb : base ≤ g) : d.R e W base ok (.slice (some ⟨g, 0, none⟩) 0 0) [] :=
 ⟨fun k hk => by
  simp [Value.ownBlock] at hk
  subst hk
  exact hok, [], ⟨by simp, .inr ⟨g, 0, #[], rfl, hb, h, Nat.le_refl _, by simp [maxLen], by simp, by simp⟩⟩, Reps.none _ _⟩
def impl_HexAll.f (a : Int) (b : Bool) : Option (List Int) := some (hexOf a b 7)
theorem impl_HexAll.calls (a0 : Int) (b0 : Bool) (r : List Int) (w : World) (hTL : TabL w) (h : impl_HexAll.f a0 b0 = some r) :
  Calls Tryz.prog 100 #[.agg #[.int .i64 a0, .bool b0]] w fun e w' => ∃ v0_ : Value, e = .returned (v0_) ∧ Kd.R (Kd.int .i64) 3 w' w.heap.size (fun _ => True) v0_ r ∧ Below w.heap.size w w' := by
 have hu1 := Tryz.underlying170
 have hu2 := Tryz.underlying173
 have hu3 := Tryz.underlying74
 obtain rfl := Option.some.inj h
 clear h
 have HT := am hTL
 clear hTL
 go_enter Tryz.func100, Tryz.ntmps100
 go_upto_region 2 with fail
 have HK0 := am (blk_alloc (blk_new w (.cells #[.int .i64 a0, .bool b0] 74)) (.cells #[] 3))
 have HZ0 := am (blk_new (w.alloc (.cells #[.int .i64 a0, .bool b0] 74)) (.cells #[] 3))
 have HB0 := am (below_alloc (below_alloc (Below.refl w.heap.size w) (.cells #[.int .i64 a0, .bool b0] 74)) (.cells #[] 3))
 go_wp2_with fail
 refine (hexachords_tabT _ (TabAt.below HT.out HB0.out)).mono ?_
 rintro e w1 ⟨g, ad, c, rfl, hTab, hb⟩
 have HH1 := am hTab
 have HK1 := am (blk_below HK0.out hb)
 have HZ1 := am (blk_below HZ0.out hb)
 have HB1 := am (below_step HB0.out hb)
 have d0 := hTab.tab.cell
 clear hTab hb
 have HZ2 : Aside0 (w1.heap[w.heap.size + 1]? = some (.cells #[] 3 (0, 0))) := ⟨by have := HZ1.out; rwa [World.size_alloc] at this⟩
 clear HZ1 HZ0 HK0
 go_wp2_with fail
 go_loopg [3, 13] 7 (fun kq v3 v13 w' => ∃ i : Nat, v13 = .int .i64 (i : Int) ∧ Aside0 (i ≤ 7 ∧ kq = 7 - i) ∧ Aside0 (HexTabT w' g ad c) ∧ Aside0 (w'.heap[w.heap.size]? = some (.cells #[.int .i64 a0, .bool b0] 74 (0, 0))) ∧ Aside0 (Kd.R (Kd.int .i64) 3 w' w.heap.size (fun _ => True) v3 (hexOf a0 b0 i)) ∧ Aside0 (Below w.heap.size w w'))
 case atStart => exact ⟨0, rfl, ⟨by omega, by omega⟩, HH1, HK1, ⟨R_empty2 _ _ _ trivial HZ2.out (by omega)⟩, HB1⟩
 case round =>
  obtain ⟨i, rfl, HI, HH, HK, HO, HB⟩ := hrel
  have hi7 := HI.out.1
  clear d0
  by_cases hi : i < 7
  ·obtain ⟨s, hs⟩ : ∃ s, sylOf (hexAll.getD i 0) a0 b0 = s := ⟨_, rfl⟩
   have HS := am hs
   clear hs
   go_wp2_with fail
   have HH2 := am (HexTabT.below HH.out (below_drew1 (Below.refl _ wr)))
   have HK2 := am (blk_drew HK.out)
   have HB2 := am (below_drew1 HB.out)
   have HO2 := am (Kd.R_drew HO.out)
   clear HH HK HB HO
   refine start_ (n := 9) (S := fun w' => w'.cell? ⟨g, 0, none⟩ = some (.slice (some ad) 7 c) ∧ w'.cell? ⟨w.heap.size, 0, none⟩ = some (.int .i64 a0) ∧ w'.cell? ⟨w.heap.size, 1, none⟩ = some (.bool b0)) (ds := []) #[F,F,F,F,F,F,F,F,F] (by kernel_rfl) rfl rfl ⟨HH2.out.tab.cell, blk_cell HK2.out 0, blk_cell HK2.out 1⟩ (fun hHeld => ?_)
   generalize wr.drew = wd at HH2 HK2 HB2 HO2 hHeld ⊢
   refine pz 0 (some 16) #[T,F,F,F,F,F,F,F,F] (by kernel_rfl) (h := ?_)
   refine pz 1 (some 17) #[T,T,F,F,F,F,F,F,F] (by kernel_rfl) (h := ?_)
   refine pz 2 (some 18) #[T,T,T,F,F,F,F,F,F] (by kernel_rfl) (h := ?_)
   refine tz hHeld 3 (some 19) #[T,T,T,T,F,F,F,F,F] (by kernel_rfl) (h := ?_)
   refine pz 4 (some 20) #[T,T,T,T,T,F,F,F,F] (by kernel_rfl) (h := ?_)
   refine pz 5 (some 21) #[T,T,T,T,T,T,F,F,F] (by kernel_rfl) (h := ?_)
   refine tz hHeld 6 (some 22) #[T,T,T,T,T,T,T,F,F] (by kernel_rfl) (h := ?_)
   refine one_ (i := 7) (N := some 23) #[T,T,T,T,T,T,T,T,F] rfl rfl (by kernel_rfl) (by decide) (fun K hK => ?_)
   refine goes_ Tryz.func107 (by kernel_rfl) rfl #[.pointer (some (ad.add (i * 13))), .agg #[.int .i64 a0, .bool b0]] (by rfl) rfl rfl (by (try simp only [mA, mC, mN]); first | done | rfl) ?_
   with_reducible refine (syl_any HH2.out i hi a0 b0 s HS.out).mono ?_
   rintro e we ⟨rfl, hb⟩
   refine ⟨_, rfl, ?_⟩
   have HH' := am (HexTabT.below HH2.out hb)
   have HK' := am (blk_below HK2.out hb)
   have HB' := am (below_step HB2.out hb)
   have HO' := am (Kd.R_below HO2.out hb)
   clear HH2 HK2 HB2 hb HO2
   have HH2 := HH'
   have HK2 := HK'
   have HB2 := HB'
   have HO2 := HO'
   clear HH' HK' HB' HO'
   refine hK.out _ _ ⟨HH2.out.tab.cell, blk_cell HK2.out 0, blk_cell HK2.out 1⟩ (fun hHeld => ?_)
   clear hK K
   refine norm_ (a' := ?_) ?_ ?_
   rotate_left
   ·show Act.put _ (some 23) _ = _
    simp only [Act.put, sA, sZ, sS, i64_w, i32_w]
    rfl
   refine pz 8 (some 24) #[T,T,T,T,T,T,T,T,T] (by kernel_rfl) (h := ?_)
   refine done_ (by kernel_rfl) ?_
   clear hHeld
   by_cases hc : 0 ≤ s
   ·have e1 : decide (0 ≤ s) = true := decide_eq_true hc
    have d0 := HH2.out.tab.cell
    have d1 := HH2.out.tab.row i hi 0 _ rfl
    obtain ⟨x, hx⟩ : ∃ x : Int, ((hexAll.getD i 0 : Nat) : Int) = x := ⟨_, rfl⟩
    rw [hx, Nat.add_zero] at d1
    have HX := am hx
    have hln := hexOf_len a0 b0 i
    clear hx
    go_wp2_with ((with_reducible refine gate_builtin (b := .append) (xs := #[.tmp 25, .tmp 34]) rfl ?_); at_builtin; refine Kd.R_append (Kd.int .i64) (w0 := w) w.heap.size rfl (.tmp 25) (.tmp 34) 28 3 (.int .i64 0) 8 rfl Tryz.underlying28 info3 rfl (by decide) (by omega) u3 (hexOf a0 b0 i) x [.int .i64 x] (fun _ => True) (fun _ => False) rfl rfl ?aP (fun _ hk => hk.elim) ?aF ?aO ?aB ?aS ?aL ?_; (case aP => exact rfl); (case aB => exact HB2.out); (case aF => exact (fun _ _ => trivial)); (case aO => exact HO2.out); (case aS => exact (below_size HB2.out)); (case aL => omega); intro v1 w6 ho hb hg hat; have HO3 := am ho; have HB3 := am hb; have HK3 := am (blk_grown HK2.out hg (Kd.R_ne HO2.out HK2.out (by decide))); have HH3 := am (HexTabT.grown HH2.out hg (by obtain ⟨cs, hcs⟩ := HH2.out.tg; exact Kd.R_ne HO2.out hcs (by decide)) (by obtain ⟨cs, hcs⟩ := HH2.out.ta; exact Kd.R_ne HO2.out hcs (by decide))); clear ho hb hg hat)
    go_roundg (7 - (i + 1))
    case measure => have := HI.out; omega
    case rel => exact ⟨i + 1, by simp, ⟨by omega, rfl⟩, HH3, HK3, ⟨by rw [hexOf_step a0 b0 i hi, HS.out, if_pos hc, HX.out]; exact HO3.out⟩, HB3⟩
   have e1 : decide (0 ≤ s) = false := decide_eq_false hc
   go_wp2
   go_roundg (7 - (i + 1))
   case measure => have := HI.out; omega
   case rel => exact ⟨i + 1, by simp, ⟨by omega, rfl⟩, HH2, HK2, ⟨by rw [hexOf_step a0 b0 i hi, HS.out, if_neg (by omega)]; exact HO2.out⟩, HB2⟩
  have e : i = 7 := by omega
  subst e
  go_wp2
  go_ret
  exact ⟨_, rfl, HO.out, HB.out⟩


end Go.Proofs.YtjnkmckklmabcaaGreatDoor.XL
