-- Made by this session's gprint.py out of the translation. Not trusted: Lean checks it.
import Derived.Test.YtjnkmckklmabcaaGreatDoorXMx0
import Derived.Test.YtjnkmckklmabcaaGreatDoorXMx3
namespace Go.Proofs.YtjnkmckklmabcaaGreatDoor.XM
open Go.RowKit Go.Proofs.YtjnkmckklmabcaaGreatDoorW.PrintWords Go.Proofs.YtjnkmckklmabcaaGreatDoorW.PrintLast Go.Proofs.YtjnkmckklmabcaaGreatDoorW.PrintMore
attribute [local go_sem] max2_int min2_int max_two min_two max_three min_three max_four min_four   -- for this text's walks alone
set_option linter.unusedVariables false
set_option linter.unusedSimpArgs false

/-! ### movedMelody and MelodyMove, by hand -/
theorem above_any (s : Int) (b : Bool) (k : Int) (soft : Bool) (w : World) (hv : toneOk s b = true) (hk0 : -20 ≤ k) (hk1 : k ≤ 20) :
  Calls Tryz.prog 54 #[.agg #[.int .i64 s, .bool b], .int .i64 k, .bool soft] w fun e w' => e = .returned (.tuple #[.agg #[.int .i64 (if toneOk (s + k) soft = true then s + k else 0), .bool (if toneOk (s + k) soft = true then soft else false)], .bool (toneOk (s + k) soft)]) ∧ Below w.heap.size w w' := by
 have hb := toneOk_bd hv
 refine impl_ToneAbove.calls 1 s b k soft _ _ _ w ?_
 unfold impl_ToneAbove.f
 rw [valid_tone, hv]
 simp only [Option.bind_some]
 rw [if_pos trivial, if_neg (by omega), decide_eq_false (show ¬ k > 20 by omega)]
 simp only [impl_ToneAbove.j0]
 rw [if_neg (by decide), show wrap64 (s + k) = s + k by unfold wrap64; omega, valid_tone]
 simp only [Option.bind_some]
 by_cases h : toneOk (s + k) soft = true
 ·rw [if_pos h, if_pos h, if_pos h, h]
 ·rw [if_neg h, if_neg h, if_neg h, Bool.eq_false_iff.mpr h]
theorem above_yes (s : Int) (b : Bool) (k : Int) (soft : Bool) (w : World) (hv : toneOk s b = true) (hk0 : -20 ≤ k) (hk1 : k ≤ 20) (h : toneOk (s + k) soft = true) :
  Calls Tryz.prog 54 #[.agg #[.int .i64 s, .bool b], .int .i64 k, .bool soft] w fun e w' => e = .returned (.tuple #[.agg #[.int .i64 (s + k), .bool soft], .bool true]) ∧ Below w.heap.size w w' :=
 (above_any s b k soft w hv hk0 hk1).mono fun e w' ⟨he, hb⟩ => ⟨by rw [he, if_pos h, if_pos h, h], hb⟩
theorem above_no (s : Int) (b : Bool) (k : Int) (soft : Bool) (w : World) (hv : toneOk s b = true) (hk0 : -20 ≤ k) (hk1 : k ≤ 20) (h : toneOk (s + k) soft = false) :
  Calls Tryz.prog 54 #[.agg #[.int .i64 s, .bool b], .int .i64 k, .bool soft] w fun e w' => e = .returned (.tuple #[.agg #[.int .i64 0, .bool false], .bool false]) ∧ Below w.heap.size w w' :=
 (above_any s b k soft w hv hk0 hk1).mono fun e w' ⟨he, hb⟩ => ⟨by rw [he, h]; rfl, hb⟩
theorem IsList.grown {w w1 : World} {base : Nat} {ok : Nat → Prop} {v : Value} {xs : List S74} (HO : Kd.R k74 74 w base ok v xs) (hg : w.grownBy w1 v.ownBlock) : ∀ {ts : List S74} {p : Option Addr}, IsList w p ts → IsList w1 p ts
 | [], _, h => h
 | t :: ts, p, h => by
  obtain ⟨g, q, rfl, hk, hr⟩ := h
  exact ⟨g, q, rfl, blk_grown hk hg (Kd.R_ne HO hk (by decide)), IsList.grown HO hg hr⟩
def mvOk (t : S74) (k semis : Int) (soft : Bool) : Bool := toneOk (t.f0 + k) soft && decide (htI (t.f0 + k) soft - htI t.f0 t.f1 = semis)
def mvd (t : S74) (k semis : Int) : Option S74 := if mvOk t k semis false = true then some ⟨t.f0 + k, false⟩ else if mvOk t k semis true = true then some ⟨t.f0 + k, true⟩ else none
def mvAll (k semis : Int) : List S74 → Option (List S74)
 | [] => some []
 | t :: ts => (mvd t k semis).bind fun x => (mvAll k semis ts).bind fun xs => some (x :: xs)
theorem mvAll_append (k semis : Int) (b : List S74) : ∀ a, mvAll k semis (a ++ b) = (mvAll k semis a).bind fun xs => (mvAll k semis b).bind fun ys => some (xs ++ ys)
 | [] => by cases h : mvAll k semis b <;> simp [mvAll, h]
 | t :: a => by
  have ih := mvAll_append k semis b a
  simp only [List.cons_append, mvAll, ih]
  cases mvd t k semis with
  | none => rfl
  | some x =>
   cases mvAll k semis a with
   | none => rfl
   | some xs => cases mvAll k semis b <;> rfl
theorem mvAll_len (k semis : Int) : ∀ (a xs : List S74), mvAll k semis a = some xs → xs.length = a.length
 | [], xs, h => by
  simp only [mvAll] at h
  rw [← Option.some.inj h]
 | t :: a, xs, h => by
  simp only [mvAll] at h
  obtain ⟨x, _, h⟩ := Option.bind_eq_some_iff.mp h
  obtain ⟨ys, h2, h⟩ := Option.bind_eq_some_iff.mp h
  rw [← Option.some.inj h, List.length_cons, List.length_cons, mvAll_len k semis a ys h2]
theorem mvAll_snoc {k semis : Int} {l : List S74} {i : Nat} (hi : i < l.length) {xs : List S74} (hx : mvAll k semis (l.take i) = some xs) {x : S74} (h : mvd l[i] k semis = some x) : mvAll k semis (l.take (i + 1)) = some (xs ++ [x]) := by
 rw [List.take_succ_eq_append_getElem hi, mvAll_append, hx]
 simp [mvAll, h]
theorem mvAll_none {k semis : Int} {l : List S74} {i : Nat} (hi : i < l.length) (h : mvd l[i] k semis = none) : mvAll k semis l = none := by
 have e : l = l.take i ++ l[i] :: l.drop (i + 1) := by rw [← List.drop_eq_getElem_cons hi, List.take_append_drop]
 rw [e, mvAll_append]
 cases mvAll k semis (l.take i) with
 | none => rfl
 | some xs => simp [mvAll, h]
theorem R_empty1 {α : Type} (d : Kd α) (e : Nat) {W : World} {g base : Nat} (ok : Nat → Prop) (hok : ok g) (h : W.heap[g]? = some (.cells #[] e (0, 0))) (hb : base ≤ g) : d.R e W base ok (.slice (some ⟨g, 0, none⟩) 0 0) [] :=
 ⟨fun k hk => by
  simp [Value.ownBlock] at hk
  subst hk
  exact hok, [], ⟨by simp, .inr ⟨g, 0, #[], rfl, hb, h, Nat.le_refl _, by simp [maxLen], by simp, by simp⟩⟩, Reps.none _ _⟩
set_option maxHeartbeats 8000000 in
set_option maxRecDepth 100000 in
theorem moved_any (A0 : Option Addr) (c0 : Nat) (l0 : List S74) (k semis : Int) (w : World) (hr0 : Kd.C k74 w A0 l0.length l0) (hc0 : l0.length ≤ c0) (hl : l0.length ≤ 100) (hv : ∀ t ∈ l0, toneOk t.f0 t.f1 = true) (hk0 : -20 ≤ k) (hk1 : k ≤ 20) (hTH : TabH w) :
  Calls Tryz.prog 55 #[.slice A0 l0.length c0, .int .i64 k, .int .i64 semis] w fun e w' => Below w.heap.size w w' ∧ ((∃ xs v, mvAll k semis l0 = some xs ∧ e = .returned (.tuple #[v, .bool true]) ∧ Kd.R k74 74 w' w.heap.size (fun _ => True) v xs) ∨ (mvAll k semis l0 = none ∧ e = .returned (.tuple #[.slice none 0 0, .bool false]))) := by
 have hu1 := Tryz.underlying84
 have hu2 := Tryz.underlying74
 have hix0 : ∀ w : World, (Instr.index 72 (.agg #[.bool false, .bool true]) (.int .i64 0)).run Tryz.prog w = .ok (.bool false) w := fun w => by kernel_rfl
 have hix1 : ∀ w : World, (Instr.index 72 (.agg #[.bool false, .bool true]) (.int .i64 1)).run Tryz.prog w = .ok (.bool true) w := fun w => by kernel_rfl
 have HR0 := am hr0
 have HC0 := am hc0
 have HV := am hv
 have HTH0 := am hTH
 clear hr0 hc0 hv hTH
 go_enter Tryz.func55, Tryz.ntmps55
 go_wp2_with fail
 refine (linked_any A0 c0 l0 _ (Kd.C_below HR0.out (below_alloc (Below.refl _ _) _)) HC0.out hl).mono ?_
 rintro e w1 ⟨p, rfl, hL, hb⟩
 have HB1 := am (below_step (below_alloc (Below.refl w.heap.size w) _) hb)
 have HL1 := am hL
 have HZ1 := am (blk_below (blk_new w _) hb)
 clear hb hL
 go_wp2_with fail
 go_loopg [8, 9] l0.length (fun kq v8 v9 w' => ∃ (i : Nat) (p : Option Addr) (xs : List S74), v9 = .pointer p ∧ Aside0 (i ≤ l0.length ∧ kq = l0.length - i) ∧ Aside0 (mvAll k semis (l0.take i) = some xs) ∧ Aside0 (IsList w' p (l0.drop i)) ∧ Aside0 (Kd.R k74 74 w' w.heap.size (fun _ => True) v8 xs) ∧ Aside0 (Below w.heap.size w w'))
 case atStart => exact ⟨0, p, [], rfl, ⟨by omega, by omega⟩, ⟨rfl⟩, ⟨by simpa using HL1.out⟩, ⟨R_empty1 _ _ _ trivial HZ1.out (Nat.le_refl _)⟩, ⟨HB1.out⟩⟩
 case round =>
  obtain ⟨i, q, xs, rfl, HI, HX, HL, HO, HB⟩ := hrel
  by_cases hin : i < l0.length
  ·obtain ⟨t, ht⟩ : ∃ t, t = l0[i] := ⟨_, rfl⟩
   have hL := HL.out
   rw [List.drop_eq_getElem_cons hin, ← ht] at hL
   obtain ⟨g, q', rfl, hg, hR⟩ := hL
   have HTHo := am (TabH.below HTH0.out HB.out)
   have HT := am (HV.out t (by rw [ht]; exact List.getElem_mem hin))
   have HTi := am ht
   have HG0 := am hg
   have HLR := am hR
   clear ht hg hR
   obtain ⟨wo, rfl⟩ : ∃ wo : World, wo = wr := ⟨_, rfl⟩
   go_wp2_with fail
   go_loopg [8, 10, 25] 2 (fun kq v8' v10 v25 w' => ∃ j : Nat, v25 = .int .i64 (j : Int) ∧ v10 = .bool false ∧ v8' = u8 ∧ Aside0 (j ≤ 2 ∧ kq = 2 - j) ∧ Aside0 (0 < j → mvOk t k semis false = false) ∧ Aside0 (1 < j → mvOk t k semis true = false) ∧ Aside0 (Below wo.heap.size wo w'))
   case atStart => exact ⟨0, rfl, rfl, rfl, ⟨by omega, by omega⟩, ⟨fun h => by omega⟩, ⟨fun h => by omega⟩, ⟨Below.refl _ _⟩⟩
   case round =>
    obtain ⟨j, rfl, rfl, rfl, HJ, HF, HF2, HBi⟩ := hrel
    by_cases hj : j < 2
    ·obtain ⟨soft, hs⟩ : ∃ soft, soft = decide (j = 1) := ⟨_, rfl⟩
     have HS := am hs
     clear hs
     go_upto_region 8 with fail
     go_cut [12] (fun v12 wc => v12 = .bool soft ∧ wc = wr)
     case first =>
      have hj2 : j = 0 ∨ j = 1 := by omega
      rcases hj2 with rfl | rfl
      all_goals
       go_wp2
       go_meet
       exact ⟨by rw [HS.out]; rfl, rfl⟩
     case rest =>
      obtain ⟨rfl, hwc⟩ := hcut
      subst hwc
      have HG := am (blk_below HG0.out HBi.out)
      have k0 : wc.cell? ⟨g, 0, none⟩ = some (.int .i64 t.f0) := blk_cell HG.out 0
      have k1 : wc.cell? ⟨g, 1, none⟩ = some (.bool t.f1) := blk_cell HG.out 1
      by_cases hok : toneOk (t.f0 + k) soft = true
      ·go_wp2_with fail
       refine (above_yes t.f0 t.f1 k soft _ HT.out hk0 hk1 hok).mono ?_
       rintro e w2 ⟨rfl, hb2⟩
       have HG2 := am (blk_below HG.out hb2)
       have HB2 := am (below_step HBi.out hb2)
       clear k0 k1 HG HBi hb2
       go_wp2_with fail
       have HZ := am (blk_drew (blk_new w2 (.cells #[.int .i64 (t.f0 + k), .bool soft] 74)))
       have HG3 := am (blk_drew (blk_alloc HG2.out (.cells #[.int .i64 (t.f0 + k), .bool soft] 74)))
       have HB3 := am (below_drew1 (below_alloc HB2.out (.cells #[.int .i64 (t.f0 + k), .bool soft] 74)))
       clear HG2 HB2
       refine start_ (n := 13) (S := fun w' => w'.cell? ⟨w2.heap.size, 0, none⟩ = some (.int .i64 (t.f0 + k)) ∧ w'.cell? ⟨w2.heap.size, 1, none⟩ = some (.bool soft) ∧ w'.cell? ⟨g, 0, none⟩ = some (.int .i64 t.f0) ∧ w'.cell? ⟨g, 1, none⟩ = some (.bool t.f1)) (ds := []) #[F,F,F,F,F,F,F,F,F,F,F,F,F] (by kernel_rfl) rfl rfl ⟨blk_cell HZ.out 0, blk_cell HZ.out 1, blk_cell HG3.out 0, blk_cell HG3.out 1⟩ (fun hHeld => ?_)
       generalize (w2.alloc (.cells #[.int .i64 (t.f0 + k), .bool soft] 74)).drew = wd at HZ HG3 HB3 hHeld ⊢
       refine pz 0 (some 38) #[T,F,F,F,F,F,F,F,F,F,F,F,F] (by kernel_rfl) (h := ?_)
       refine pz 1 (some 39) #[T,T,F,F,F,F,F,F,F,F,F,F,F] (by kernel_rfl) (h := ?_)
       refine pz 4 (some 42) #[T,T,F,F,T,F,F,F,F,F,F,F,F] (by kernel_rfl) (h := ?_)
       refine pz 5 (some 43) #[T,T,F,F,T,T,F,F,F,F,F,F,F] (by kernel_rfl) (h := ?_)
       refine pz 6 (some 44) #[T,T,F,F,T,T,T,F,F,F,F,F,F] (by kernel_rfl) (h := ?_)
       refine pz 10 (some 48) #[T,T,F,F,T,T,T,F,F,F,T,F,F] (by kernel_rfl) (h := ?_)
       refine tz hHeld 2 (some 40) #[T,T,T,F,T,T,T,F,F,F,T,F,F] (by kernel_rfl) (h := ?_)
       refine tz hHeld 7 (some 45) #[T,T,T,F,T,T,T,T,F,F,T,F,F] (by kernel_rfl) (h := ?_)
       refine one_ (i := 3) (N := some 41) #[T,T,T,T,T,T,T,T,F,F,T,F,F] rfl rfl (by kernel_rfl) (by decide) (fun K hK => ?_)
       refine goes_ Tryz.func56 (by kernel_rfl) rfl #[.agg #[.int .i64 (t.f0 + k), .bool soft]] (by rfl) rfl rfl (by (try simp only [List.map_toArray, List.map_cons, List.map_nil]); first | done | rfl) ?_
       with_reducible refine (height_any (t.f0 + k) soft _ (TabH.below HTHo.out HB3.out) hok).mono ?_
       rintro e we ⟨rfl, hb⟩
       refine ⟨_, rfl, ?_⟩
       have HZ' := am (blk_below HZ.out hb)
       have HG' := am (blk_below HG3.out hb)
       have HB' := am (below_step HB3.out hb)
       clear HZ HG3 HB3 hb
       have HZ := HZ'
       have HG3 := HG'
       have HB3 := HB'
       clear HZ' HG' HB'
       refine hK.out _ _ ⟨blk_cell HZ.out 0, blk_cell HZ.out 1, blk_cell HG3.out 0, blk_cell HG3.out 1⟩ (fun hHeld => ?_)
       clear hK K
       refine norm_ (a' := ?_) ?_ ?_
       rotate_left
       ·show Act.put _ (some 41) _ = _
        simp only [Act.put, sA, sZ, sS, i64_w, i32_w]
        rfl
       refine one_ (i := 8) (N := some 46) #[T,T,T,T,T,T,T,T,T,F,T,F,F] rfl rfl (by kernel_rfl) (by decide) (fun K hK => ?_)
       refine goes_ Tryz.func56 (by kernel_rfl) rfl #[.agg #[.int .i64 t.f0, .bool t.f1]] (by rfl) rfl rfl (by (try simp only [List.map_toArray, List.map_cons, List.map_nil]); first | done | rfl) ?_
       with_reducible refine (height_any t.f0 t.f1 _ (TabH.below HTHo.out HB3.out) HT.out).mono ?_
       rintro e we ⟨rfl, hb⟩
       refine ⟨_, rfl, ?_⟩
       have HZ' := am (blk_below HZ.out hb)
       have HG' := am (blk_below HG3.out hb)
       have HB' := am (below_step HB3.out hb)
       clear HZ HG3 HB3 hb
       have HZ := HZ'
       have HG3 := HG'
       have HB3 := HB'
       clear HZ' HG' HB'
       refine hK.out _ _ ⟨blk_cell HZ.out 0, blk_cell HZ.out 1, blk_cell HG3.out 0, blk_cell HG3.out 1⟩ (fun hHeld => ?_)
       clear hK K
       refine norm_ (a' := ?_) ?_ ?_
       rotate_left
       ·show Act.put _ (some 46) _ = _
        simp only [Act.put, sA, sZ, sS, i64_w, i32_w]
        rfl
       refine pz 9 (some 47) #[T,T,T,T,T,T,T,T,T,T,T,F,F] (by kernel_rfl) (h := ?_)
       refine pz 11 (some 49) #[T,T,T,T,T,T,T,T,T,T,T,T,F] (by kernel_rfl) (h := ?_)
       refine pz 12 (some 50) #[T,T,T,T,T,T,T,T,T,T,T,T,T] (by kernel_rfl) (h := ?_)
       refine done_ (by kernel_rfl) ?_
       clear hHeld
       have hwr : wrap64 (htI (t.f0 + k) soft - htI t.f0 t.f1) = htI (t.f0 + k) soft - htI t.f0 t.f1 := by
        have h1 := htI_bd hok
        have h2 := htI_bd HT.out
        unfold wrap64
        omega
       have z0 : we.cell? ⟨w2.heap.size, 0, none⟩ = some (.int .i64 (t.f0 + k)) := blk_cell HZ.out 0
       have z1 : we.cell? ⟨w2.heap.size, 1, none⟩ = some (.bool soft) := blk_cell HZ.out 1
       have HOe := am (Kd.R_below HO.out HB3.out)
       have HLe := am (HLR.out.below HB3.out)
       have HBe := am (below_step HB.out HB3.out)
       by_cases hse : htI (t.f0 + k) soft - htI t.f0 t.f1 = semis
       ·have hm : mvOk t k semis soft = true := by
         unfold mvOk
         rw [hok, decide_eq_true hse]
         rfl
        have hcb : (wrap64 (htI (t.f0 + k) soft - htI t.f0 t.f1) == semis) = true := by
         rw [hwr]
         exact beq_iff_eq.2 hse
        have HM := am (show mvd t k semis = some ⟨t.f0 + k, soft⟩ by
         unfold mvd
         have hj2 : j = 0 ∨ j = 1 := by omega
         rcases hj2 with rfl | rfl
         ·have : soft = false := by rw [HS.out]; rfl
          subst this
          rw [if_pos hm]
         ·have : soft = true := by rw [HS.out]; rfl
          subst this
          rw [if_neg (by rw [HF.out (by omega)]; decide), if_pos hm])
        have hxl := mvAll_len k semis _ _ HX.out
        have hxl2 : xs.length ≤ 100 := by rw [hxl, List.length_take]; omega
        clear hm hse hwr hxl
        go_wp2_with (first | ((with_reducible refine gate_builtin (b := .append) (xs := #[.tmp 51, .tmp 53]) rfl ?_); at_builtin; refine Kd.R_append k74 (w0 := w) w.heap.size rfl (.tmp 51) (.tmp 53) 34 74 (.agg #[(.int .i64 0), (.bool false)]) 16 rfl Tryz.underlying34 info74 rfl (by decide) (by omega) u8 xs (⟨t.f0 + k, soft⟩ : S74) [.int .i64 (t.f0 + k), .bool soft] (fun _ => True) (fun _ => False) rfl rfl ?aP (fun _ hk => hk.elim) ?aF ?aO ?aB ?aS ?aL ?_; (case aP => exact k74_mkM _ _ _ (⟨t.f0 + k, soft⟩ : S74)); (case aF => exact (fun _ _ => trivial)); (case aO => exact HOe.out); (case aB => exact HBe.out); (case aS => exact (below_size HBe.out)); (case aL => omega); intro v1 w6 ho hb hg hat; have n0 : w6.cell? ⟨g, 2, none⟩ = some (.pointer q') := blk_cell (blk_grown HG3.out hg (Kd.R_ne HOe.out HG3.out (by decide))) 2; have HO6 := am ho; have HB6 := am hb; have HL6 := am (IsList.grown HOe.out hg HLe.out); clear ho hb hg hat z0 z1))
        go_roundg (l0.length - (i + 1))
        case measure => have := HI.out; omega
        case rel => exact ⟨i + 1, q', xs ++ [⟨t.f0 + k, soft⟩], rfl, ⟨by omega, rfl⟩, ⟨mvAll_snoc hin HX.out (by rw [← HTi.out]; exact HM.out)⟩, HL6, HO6, HB6⟩
       ·have HM := am (show mvOk t k semis soft = false by
         unfold mvOk
         rw [hok, decide_eq_false hse]
         rfl)
        have hcb : (wrap64 (htI (t.f0 + k) soft - htI t.f0 t.f1) == semis) = false := by
         rw [hwr]
         exact beq_eq_false_iff_ne.2 hse
        clear hse hwr
        go_wp2
        go_roundg (2 - (j + 1))
        case measure => have := HJ.out; omega
        case rel =>
         refine ⟨j + 1, by simp, rfl, rfl, ⟨by omega, rfl⟩, ⟨fun _ => ?_⟩, ⟨fun h1 => ?_⟩, ⟨HB3.out⟩⟩
         ·by_cases hj0 : j = 0
          ·have : soft = false := by rw [HS.out, hj0]; rfl
           have h3 := HM.out
           rw [this] at h3
           exact h3
          ·exact HF.out (by omega)
         ·have : soft = true := by rw [HS.out, show j = 1 by omega]; rfl
          have h3 := HM.out
          rw [this] at h3
          exact h3
      ·have hok := Bool.eq_false_iff.mpr hok
       go_wp2_with fail
       refine (above_no t.f0 t.f1 k soft _ HT.out hk0 hk1 hok).mono ?_
       rintro e w2 ⟨rfl, hb2⟩
       have HG2 := am (blk_below HG.out hb2)
       have HB2 := am (below_step HBi.out hb2)
       have HM := am (show mvOk t k semis soft = false by
        unfold mvOk
        rw [hok]
        rfl)
       clear k0 k1 HG HBi hb2
       go_wp2_with fail
       have HZ := am (blk_drew (blk_new w2 (.cells #[.int .i64 (0), .bool false] 74)))
       have HG3 := am (blk_drew (blk_alloc HG2.out (.cells #[.int .i64 (0), .bool false] 74)))
       have HB3 := am (below_drew1 (below_alloc HB2.out (.cells #[.int .i64 (0), .bool false] 74)))
       clear HG2 HB2
       refine start_ (n := 13) (S := fun w' => w'.cell? ⟨w2.heap.size, 0, none⟩ = some (.int .i64 0) ∧ w'.cell? ⟨w2.heap.size, 1, none⟩ = some (.bool false) ∧ w'.cell? ⟨g, 0, none⟩ = some (.int .i64 t.f0) ∧ w'.cell? ⟨g, 1, none⟩ = some (.bool t.f1)) (ds := []) #[F,F,F,F,F,F,F,F,F,F,F,F,F] (by kernel_rfl) rfl rfl ⟨blk_cell HZ.out 0, blk_cell HZ.out 1, blk_cell HG3.out 0, blk_cell HG3.out 1⟩ (fun hHeld => ?_)
       generalize (w2.alloc (.cells #[.int .i64 (0), .bool false] 74)).drew = wd at HZ HG3 HB3 hHeld ⊢
       refine pz 0 (some 38) #[T,F,F,F,F,F,F,F,F,F,F,F,F] (by kernel_rfl) (h := ?_)
       refine pz 1 (some 39) #[T,T,F,F,F,F,F,F,F,F,F,F,F] (by kernel_rfl) (h := ?_)
       refine pv 2 (some 40) #[T,T,T,F,F,F,F,F,F,F,F,F,F] (by kernel_rfl) (h := ?_)
       refine pv 3 (some 41) #[T,T,T,T,F,F,F,F,F,F,F,F,F] (by kernel_rfl) (h := ?_)
       refine pv 4 (some 42) #[T,T,T,T,T,F,F,F,F,F,F,F,F] (by kernel_rfl) (h := ?_)
       refine pv 5 (some 43) #[T,T,T,T,T,T,F,F,F,F,F,F,F] (by kernel_rfl) (h := ?_)
       refine pv 6 (some 44) #[T,T,T,T,T,T,T,F,F,F,F,F,F] (by kernel_rfl) (h := ?_)
       refine pv 7 (some 45) #[T,T,T,T,T,T,T,T,F,F,F,F,F] (by kernel_rfl) (h := ?_)
       refine pv 8 (some 46) #[T,T,T,T,T,T,T,T,T,F,F,F,F] (by kernel_rfl) (h := ?_)
       refine pv 9 (some 47) #[T,T,T,T,T,T,T,T,T,T,F,F,F] (by kernel_rfl) (h := ?_)
       refine pv 10 (some 48) #[T,T,T,T,T,T,T,T,T,T,T,F,F] (by kernel_rfl) (h := ?_)
       refine pv 11 (some 49) #[T,T,T,T,T,T,T,T,T,T,T,T,F] (by kernel_rfl) (h := ?_)
       refine pz 12 (some 50) #[T,T,T,T,T,T,T,T,T,T,T,T,T] (by kernel_rfl) (h := ?_)
       refine done_ (by kernel_rfl) ?_
       clear hHeld
       go_wp2
       go_roundg (2 - (j + 1))
       case measure => have := HJ.out; omega
       case rel =>
        refine ⟨j + 1, by simp, rfl, rfl, ⟨by omega, rfl⟩, ⟨fun _ => ?_⟩, ⟨fun h1 => ?_⟩, ⟨HB3.out⟩⟩
        ·by_cases hj0 : j = 0
         ·have : soft = false := by rw [HS.out, hj0]; rfl
          have h3 := HM.out
          rw [this] at h3
          exact h3
         ·exact HF.out (by omega)
        ·have : soft = true := by rw [HS.out, show j = 1 by omega]; rfl
         have h3 := HM.out
         rw [this] at h3
         exact h3
    ·have hj2 : j = 2 := by have := HJ.out.1; omega
     subst hj2
     have hno : mvd t k semis = none := by
      unfold mvd
      rw [if_neg (by rw [HF.out (by omega)]; decide), if_neg (by rw [HF2.out (by omega)]; decide)]
     have HNO := am (mvAll_none hin (by rw [← HTi.out]; exact hno))
     clear hno
     go_wp2
     go_ret2
     exact ⟨below_step HB.out HBi.out, .inr ⟨HNO.out, rfl⟩⟩
  ·have e : i = l0.length := by have := HI.out; omega
   have hq := HL.out
   rw [List.drop_eq_nil_of_le (by omega)] at hq
   have hq2 : q = none := hq
   subst hq2
   clear hq
   go_wp2
   go_ret2
   exact ⟨HB.out, .inl ⟨xs, u8, by rw [← HX.out, List.take_of_length_le (by omega)], rfl, HO.out⟩⟩
theorem moved_yes (A0 : Option Addr) (c0 : Nat) (l0 : List S74) (k semis : Int) (xs : List S74) (w : World) (hr0 : Kd.C k74 w A0 l0.length l0) (hc0 : l0.length ≤ c0) (hl : l0.length ≤ 100) (hv : ∀ t ∈ l0, toneOk t.f0 t.f1 = true) (hk0 : -20 ≤ k) (hk1 : k ≤ 20) (hTH : TabH w) (h : mvAll k semis l0 = some xs) :
  Calls Tryz.prog 55 #[.slice A0 l0.length c0, .int .i64 k, .int .i64 semis] w fun e w' => ∃ v, e = .returned (.tuple #[v, .bool true]) ∧ Kd.R k74 74 w' w.heap.size (fun _ => True) v xs ∧ Below w.heap.size w w' :=
 (moved_any A0 c0 l0 k semis w hr0 hc0 hl hv hk0 hk1 hTH).mono fun e w' ⟨hb, h1⟩ => by
  rcases h1 with ⟨ys, v, h2, h3, h4⟩ | ⟨h2, h3⟩
  ·rw [h] at h2
   obtain rfl := Option.some.inj h2
   exact ⟨v, h3, h4, hb⟩
  ·rw [h] at h2
   exact absurd h2 (by simp)
theorem moved_no (A0 : Option Addr) (c0 : Nat) (l0 : List S74) (k semis : Int) (w : World) (hr0 : Kd.C k74 w A0 l0.length l0) (hc0 : l0.length ≤ c0) (hl : l0.length ≤ 100) (hv : ∀ t ∈ l0, toneOk t.f0 t.f1 = true) (hk0 : -20 ≤ k) (hk1 : k ≤ 20) (hTH : TabH w) (h : mvAll k semis l0 = none) :
  Calls Tryz.prog 55 #[.slice A0 l0.length c0, .int .i64 k, .int .i64 semis] w fun e w' => e = .returned (.tuple #[.slice none 0 0, .bool false]) ∧ Below w.heap.size w w' :=
 (moved_any A0 c0 l0 k semis w hr0 hc0 hl hv hk0 hk1 hTH).mono fun e w' ⟨hb, h1⟩ => by
  rcases h1 with ⟨ys, v, h2, h3, h4⟩ | ⟨h2, h3⟩
  ·rw [h] at h2
   exact absurd h2 (by simp)
  ·exact ⟨h3, hb⟩
theorem above_out (s : Int) (b : Bool) (k : Int) (soft : Bool) (w : World) (hv : toneOk s b = true) (h : ¬ (-20 ≤ k ∧ k ≤ 20)) :
  Calls Tryz.prog 54 #[.agg #[.int .i64 s, .bool b], .int .i64 k, .bool soft] w fun e w' => e = .returned (.tuple #[.agg #[.int .i64 0, .bool false], .bool false]) ∧ Below w.heap.size w w' := by
 refine impl_ToneAbove.calls 1 s b k soft _ _ _ w ?_
 unfold impl_ToneAbove.f
 rw [valid_tone, hv]
 simp only [Option.bind_some]
 rw [if_pos trivial]
 by_cases h0 : k < -20
 ·rw [if_pos h0]
  simp only [impl_ToneAbove.j0, if_true]
 ·rw [if_neg h0, decide_eq_true (show k > 20 by omega)]
  simp only [impl_ToneAbove.j0, if_true]
theorem melody_facts : ∀ (k : Nat) (l : List S74) (i : Nat), i ≤ l.length → l.length ≤ 24 → impl_MelodyValid.l0 k l (l.length : Int) (i : Int) = some true → ∀ t ∈ l.drop i, toneOk t.f0 t.f1 = true := by
 intro k
 induction k with
 | zero =>
  intro l i hi hl h
  simp [impl_MelodyValid.l0] at h
 | succ k ih =>
  intro l i hi hl h t ht
  simp only [impl_MelodyValid.l0] at h
  by_cases hlt : i < l.length
  ·rw [if_pos (by omega), if_pos (by omega), if_pos (by omega), rdLk_at l i hlt, valid_tone] at h
   simp only [Option.bind_some] at h
   rw [List.drop_eq_getElem_cons hlt] at ht
   cases hv : toneOk l[i].f0 l[i].f1 with
   | false =>
    rw [hv, if_neg (by decide)] at h
    exact absurd h (by simp)
   | true =>
    rw [hv, if_pos rfl, show wrap64 ((i : Int) + 1) = ((i + 1 : Nat) : Int) by unfold wrap64; omega] at h
    rcases List.mem_cons.1 ht with rfl | ht
    ·exact hv
    ·exact ih l (i + 1) (by omega) hl h t ht
  ·rw [List.drop_eq_nil_of_le (by omega)] at ht
   exact absurd ht (by simp)
theorem melody_true {k : Nat} {l : List S74} (h : impl_MelodyValid.f k l = some true) : l.length ≤ 24 ∧ ∀ t ∈ l, toneOk t.f0 t.f1 = true := by
 unfold impl_MelodyValid.f at h
 by_cases hl : (l.length : Int) > 24
 ·rw [if_pos hl] at h
  exact absurd h (by simp)
 ·rw [if_neg hl] at h
  exact ⟨by omega, by simpa using melody_facts k l 0 (by omega) (by omega) h⟩
def mvTry (l : List S74) (t : S74) (k : Int) (soft : Bool) : Option (List S74) := if toneOk (t.f0 + k) soft = true then mvAll k (htI (t.f0 + k) soft - htI t.f0 t.f1) l else none
def mvMove (k : Int) : List S74 → List S74 × Bool
 | [] => ([], true)
 | t :: ts => if -20 ≤ k ∧ k ≤ 20 then (match mvTry (t :: ts) t k false with
  | some xs => (xs, true)
  | none => match mvTry (t :: ts) t k true with
   | some xs => (xs, true)
   | none => ([], false)) else ([], false)
theorem add_none0 (ad : Addr) : ad.add (0 * 2) = ad := by
 unfold Addr.add
 simp
theorem cell_low {w w1 : World} (hb : Below w.heap.size w w1) {a : Addr} {v : Value} (h : w.cell? a = some v) : w1.cell? a = some v := (hb.cell (World.block_lt_of_cell? w _ h)).trans h
set_option maxHeartbeats 8000000 in
set_option maxRecDepth 100000 in
theorem move_none (n : Nat) (A0 : Option Addr) (c0 : Nat) (l0 : List S74) (k : Int) (w : World) (hr0 : Kd.C k74 w A0 l0.length l0) (hc0 : l0.length ≤ c0) (h : impl_MelodyValid.f n l0 = some false) :
  Calls Tryz.prog 23 #[.slice A0 l0.length c0, .int .i64 k] w fun e w' => e = .returned (.tuple #[.slice none 0 0, .bool false]) ∧ Below w.heap.size w w' := by
 have HR0 := am hr0
 have HC0 := am hc0
 have H := am h
 clear hr0 hc0 h
 go_enter Tryz.func23, Tryz.ntmps23
 go_wp2_with fail
 refine (impl_MelodyValid.calls n A0 c0 l0 false _ HR0.out HC0.out H.out).mono ?_
 rintro e w1 ⟨rfl, hb⟩
 have HB := am hb
 clear hb
 go_wp2
 go_ret2
 exact ⟨rfl, HB.out⟩
set_option maxHeartbeats 8000000 in
set_option maxRecDepth 100000 in
theorem move_nil (n : Nat) (A0 : Option Addr) (c0 : Nat) (k : Int) (w : World) (hr0 : Kd.C k74 w A0 0 []) (h : impl_MelodyValid.f n [] = some true) :
  Calls Tryz.prog 23 #[.slice A0 0 c0, .int .i64 k] w fun e w' => ∃ v, e = .returned (.tuple #[v, .bool true]) ∧ Kd.R k74 74 w' w.heap.size (fun _ => True) v [] ∧ Below w.heap.size w w' := by
 have HR0 := am hr0
 have H := am h
 clear hr0 h
 go_enter Tryz.func23, Tryz.ntmps23
 go_wp2_with fail
 refine (impl_MelodyValid.calls n A0 c0 [] true _ HR0.out (Nat.zero_le _) H.out).mono ?_
 rintro e w1 ⟨rfl, hb⟩
 have HB := am hb
 clear hb
 go_wp2
 go_ret2
 exact ⟨_, rfl, R_empty1 _ _ _ trivial (blk_new _ _) (below_size HB.out), below_alloc HB.out _⟩
set_option maxHeartbeats 8000000 in
set_option maxRecDepth 100000 in
theorem move_out (n : Nat) (A0 : Option Addr) (c0 : Nat) (l0 : List S74) (k : Int) (w : World) (hr0 : Kd.C k74 w A0 l0.length l0) (hc0 : l0.length ≤ c0) (h : impl_MelodyValid.f n l0 = some true) (hp : 0 < l0.length) (hk : ¬ (-20 ≤ k ∧ k ≤ 20)) :
  Calls Tryz.prog 23 #[.slice A0 l0.length c0, .int .i64 k] w fun e w' => e = .returned (.tuple #[.slice none 0 0, .bool false]) ∧ Below w.heap.size w w' := by
 obtain ⟨hl, hv⟩ := melody_true h
 obtain ⟨t, ht⟩ : ∃ t, t = l0[0] := ⟨_, rfl⟩
 have HT := am (hv t (by rw [ht]; exact List.getElem_mem hp))
 have hu2 := Tryz.underlying74
 have hix0 : ∀ w : World, (Instr.index 72 (.agg #[.bool false, .bool true]) (.int .i64 0)).run Tryz.prog w = .ok (.bool false) w := fun w => by kernel_rfl
 have hix1 : ∀ w : World, (Instr.index 72 (.agg #[.bool false, .bool true]) (.int .i64 1)).run Tryz.prog w = .ok (.bool true) w := fun w => by kernel_rfl
 obtain ⟨ad, e1, hx0, hx1⟩ := at_T74 hr0 ((0 : Nat) : Int) (by omega) (by omega)
 cases e1
 simp only [Int.toNat_natCast] at hx0 hx1
 rw [rdLk_at l0 0 hp, ← ht] at hx0 hx1
 rw [add_none0] at hx0 hx1
 have HR0 := am hr0
 have HC0 := am hc0
 have H := am h
 clear hr0 hc0 h hv ht
 go_enter Tryz.func23, Tryz.ntmps23
 go_wp2_with fail
 refine (impl_MelodyValid.calls n (some ad) c0 l0 true _ HR0.out HC0.out H.out).mono ?_
 rintro e w1 ⟨rfl, hb⟩
 have HB := am hb
 clear hb
 have hne : ((l0.length : Int) == 0) = false := by rw [beq_eq_false_iff_ne]; omega
 have hne2 : (l0.length == 0) = false := by rw [beq_eq_false_iff_ne]; omega
 go_wp2_with fail
 go_loopg [20] 2 (fun kq v20 w' => ∃ j : Nat, v20 = .int .i64 (j : Int) ∧ Aside0 (j ≤ 2 ∧ kq = 2 - j) ∧ Aside0 (Below w.heap.size w w'))
 case atStart => exact ⟨0, rfl, ⟨by omega, by omega⟩, ⟨HB.out⟩⟩
 case round =>
  obtain ⟨j, rfl, HJ, HBi⟩ := hrel
  by_cases hj : j < 2
  ·obtain ⟨soft, hs⟩ : ∃ soft, soft = decide (j = 1) := ⟨_, rfl⟩
   have HS := am hs
   clear hs
   go_upto_region 7 with fail
   go_cut [7] (fun v7 wc => v7 = .bool soft ∧ wc = wr)
   case first =>
    have hj2 : j = 0 ∨ j = 1 := by omega
    rcases hj2 with rfl | rfl
    all_goals
     go_wp2
     go_meet
     exact ⟨by rw [HS.out]; rfl, rfl⟩
   case rest =>
    obtain ⟨rfl, hwc⟩ := hcut
    subst hwc
    have k0 : wc.cell? ad = some (.int .i64 t.f0) := (HBi.out.cell (World.block_lt_of_cell? w _ hx0)).trans hx0
    have k1 : wc.cell? ⟨ad.block, ad.off + 1, none⟩ = some (.bool t.f1) := (HBi.out.cell (World.block_lt_of_cell? w _ hx1)).trans hx1
    go_wp2_with fail
    refine (above_out t.f0 t.f1 k soft _ HT.out hk).mono ?_
    rintro e w2 ⟨rfl, hb2⟩
    have HB2 := am (below_step HBi.out hb2)
    clear k0 k1 hb2 HBi
    go_wp2
    go_roundg (2 - (j + 1))
    case measure => have := HJ.out; omega
    case rel => exact ⟨j + 1, by simp, ⟨by omega, rfl⟩, ⟨below_alloc HB2.out _⟩⟩
  ·have e : j = 2 := by have := HJ.out.1; omega
   subst e
   go_wp2
   go_ret2
   exact ⟨rfl, HBi.out⟩
set_option maxHeartbeats 8000000 in
set_option maxRecDepth 100000 in
theorem move_in (n : Nat) (A0 : Option Addr) (c0 : Nat) (l0 : List S74) (k : Int) (w : World) (hr0 : Kd.C k74 w A0 l0.length l0) (hc0 : l0.length ≤ c0) (h : impl_MelodyValid.f n l0 = some true) (hp : 0 < l0.length) (hk0 : -20 ≤ k) (hk1 : k ≤ 20) (hTH : TabH w) :
  Calls Tryz.prog 23 #[.slice A0 l0.length c0, .int .i64 k] w fun e w' => ∃ v, e = .returned (.tuple #[v, .bool (mvMove k l0).2]) ∧ Kd.R k74 74 w' w.heap.size (fun _ => True) v (mvMove k l0).1 ∧ Below w.heap.size w w' := by
 obtain ⟨hl, hv⟩ := melody_true h
 obtain ⟨t, ht⟩ : ∃ t, t = l0[0] := ⟨_, rfl⟩
 have HT := am (hv t (by rw [ht]; exact List.getElem_mem hp))
 have hu2 := Tryz.underlying74
 have hix0 : ∀ w : World, (Instr.index 72 (.agg #[.bool false, .bool true]) (.int .i64 0)).run Tryz.prog w = .ok (.bool false) w := fun w => by kernel_rfl
 have hix1 : ∀ w : World, (Instr.index 72 (.agg #[.bool false, .bool true]) (.int .i64 1)).run Tryz.prog w = .ok (.bool true) w := fun w => by kernel_rfl
 obtain ⟨ad, e1, hx0, hx1⟩ := at_T74 hr0 ((0 : Nat) : Int) (by omega) (by omega)
 cases e1
 simp only [Int.toNat_natCast] at hx0 hx1
 rw [rdLk_at l0 0 hp, ← ht] at hx0 hx1
 rw [add_none0] at hx0 hx1
 have hmv : mvMove k l0 = (match mvTry l0 t k false with
  | some xs => (xs, true)
  | none => match mvTry l0 t k true with
   | some xs => (xs, true)
   | none => ([], false)) := by
  cases l0 with
  | nil => simp at hp
  | cons t0 ts =>
   have e : t = t0 := ht
   rw [e]
   unfold mvMove
   dsimp only
   rw [if_pos ⟨hk0, hk1⟩]
 have HMV := am hmv
 have HV := am hv
 have HTH0 := am hTH
 have HX0 := am hx0
 have HX1 := am hx1
 have HR0 := am hr0
 have HC0 := am hc0
 have H := am h
 clear hr0 hc0 h hv ht hmv hTH hx0 hx1
 go_enter Tryz.func23, Tryz.ntmps23
 go_wp2_with fail
 refine (impl_MelodyValid.calls n (some ad) c0 l0 true _ HR0.out HC0.out H.out).mono ?_
 rintro e w1 ⟨rfl, hb⟩
 have HB := am hb
 clear hb
 have hne : ((l0.length : Int) == 0) = false := by rw [beq_eq_false_iff_ne]; omega
 have hne2 : (l0.length == 0) = false := by rw [beq_eq_false_iff_ne]; omega
 go_wp2_with fail
 go_loopg [20] 2 (fun kq v20 w' => ∃ j : Nat, v20 = .int .i64 (j : Int) ∧ Aside0 (j ≤ 2 ∧ kq = 2 - j) ∧ Aside0 (0 < j → mvTry l0 t k false = none) ∧ Aside0 (1 < j → mvTry l0 t k true = none) ∧ Aside0 (Below w.heap.size w w'))
 case atStart => exact ⟨0, rfl, ⟨by omega, by omega⟩, ⟨fun h => by omega⟩, ⟨fun h => by omega⟩, ⟨HB.out⟩⟩
 case round =>
  obtain ⟨j, rfl, HJ, HF, HF2, HBi⟩ := hrel
  by_cases hj : j < 2
  ·obtain ⟨soft, hs⟩ : ∃ soft, soft = decide (j = 1) := ⟨_, rfl⟩
   have HS := am hs
   clear hs
   go_upto_region 7 with fail
   go_cut [7] (fun v7 wc => v7 = .bool soft ∧ wc = wr)
   case first =>
    have hj2 : j = 0 ∨ j = 1 := by omega
    rcases hj2 with rfl | rfl
    all_goals
     go_wp2
     go_meet
     exact ⟨by rw [HS.out]; rfl, rfl⟩
   case rest =>
    obtain ⟨rfl, hwc⟩ := hcut
    subst hwc
    have k0 : wc.cell? ad = some (.int .i64 t.f0) := cell_low HBi.out HX0.out
    have k1 : wc.cell? ⟨ad.block, ad.off + 1, none⟩ = some (.bool t.f1) := cell_low HBi.out HX1.out
    by_cases hok : toneOk (t.f0 + k) soft = true
    ·have hwr : wrap64 (htI (t.f0 + k) soft - htI t.f0 t.f1) = htI (t.f0 + k) soft - htI t.f0 t.f1 := by
      have h1 := htI_bd hok
      have h2 := htI_bd HT.out
      unfold wrap64
      omega
     have HW := am hwr
     clear hwr
     go_wp2_with fail
     refine (above_yes t.f0 t.f1 k soft _ HT.out hk0 hk1 hok).mono ?_
     rintro e w2 ⟨rfl, hb2⟩
     have HB2 := am (below_step HBi.out hb2)
     clear k0 k1 hb2 HBi
     cases hm : mvAll k (wrap64 (htI (t.f0 + k) soft - htI t.f0 t.f1)) l0 with
     | some xs =>
      have HM := am hm
      have HT2 := am (show mvTry l0 t k soft = some xs by
       unfold mvTry
       rw [if_pos hok, ← HW.out]
       exact hm)
      clear hm
      go_wp2_with fail
      have HZ := am (blk_drew (blk_new w2 (.cells #[.int .i64 (t.f0 + k), .bool soft] 74)))
      have HB3 := am (below_drew1 (below_alloc HB2.out (.cells #[.int .i64 (t.f0 + k), .bool soft] 74)))
      clear HB2
      refine start_ (n := 15) (S := fun w' => w'.cell? ⟨w2.heap.size, 0, none⟩ = some (.int .i64 (t.f0 + k)) ∧ w'.cell? ⟨w2.heap.size, 1, none⟩ = some (.bool soft) ∧ w'.cell? ad = some (.int .i64 t.f0) ∧ w'.cell? ⟨ad.block, ad.off + 1, none⟩ = some (.bool t.f1)) (ds := []) #[F,F,F,F,F,F,F,F,F,F,F,F,F,F,F] (by kernel_rfl) rfl rfl ⟨blk_cell HZ.out 0, blk_cell HZ.out 1, cell_low HB3.out HX0.out, cell_low HB3.out HX1.out⟩ (fun hHeld => ?_)
      generalize (w2.alloc (.cells #[.int .i64 (t.f0 + k), .bool soft] 74)).drew = wd at HZ HB3 hHeld ⊢
      refine pz 0 (some 35) #[T,F,F,F,F,F,F,F,F,F,F,F,F,F,F] (by kernel_rfl) (h := ?_)
      refine pz 1 (some 36) #[T,T,F,F,F,F,F,F,F,F,F,F,F,F,F] (by kernel_rfl) (h := ?_)
      refine pz 4 (some 39) #[T,T,F,F,T,F,F,F,F,F,F,F,F,F,F] (by kernel_rfl) (h := ?_)
      refine pz 5 (some 40) #[T,T,F,F,T,T,F,F,F,F,F,F,F,F,F] (by kernel_rfl) (h := ?_)
      refine tz hHeld 2 (some 37) #[T,T,T,F,T,T,F,F,F,F,F,F,F,F,F] (by kernel_rfl) (h := ?_)
      refine tz hHeld 6 (some 41) #[T,T,T,F,T,T,T,F,F,F,F,F,F,F,F] (by kernel_rfl) (h := ?_)
      refine one_ (i := 3) (N := some 38) #[T,T,T,T,T,T,T,F,F,F,F,F,F,F,F] rfl rfl (by kernel_rfl) (by decide) (fun K hK => ?_)
      refine goes_ Tryz.func56 (by kernel_rfl) rfl #[.agg #[.int .i64 (t.f0 + k), .bool soft]] (by rfl) rfl rfl (by (try simp only [List.map_toArray, List.map_cons, List.map_nil]); first | done | rfl) ?_
      with_reducible refine (height_any (t.f0 + k) soft _ (TabH.below HTH0.out HB3.out) hok).mono ?_
      rintro e we ⟨rfl, hb⟩
      refine ⟨_, rfl, ?_⟩
      have HZ' := am (blk_below HZ.out hb)
      have HB' := am (below_step HB3.out hb)
      clear HZ HB3 hb
      have HZ := HZ'
      have HB3 := HB'
      clear HZ' HB'
      refine hK.out _ _ ⟨blk_cell HZ.out 0, blk_cell HZ.out 1, cell_low HB3.out HX0.out, cell_low HB3.out HX1.out⟩ (fun hHeld => ?_)
      clear hK K
      refine norm_ (a' := ?_) ?_ ?_
      rotate_left
      ·show Act.put _ (some 38) _ = _
       simp only [Act.put, sA, sZ, sS, i64_w, i32_w]
       rfl
      refine one_ (i := 7) (N := some 42) #[T,T,T,T,T,T,T,T,F,F,F,F,F,F,F] rfl rfl (by kernel_rfl) (by decide) (fun K hK => ?_)
      refine goes_ Tryz.func56 (by kernel_rfl) rfl #[.agg #[.int .i64 t.f0, .bool t.f1]] (by rfl) rfl rfl (by (try simp only [List.map_toArray, List.map_cons, List.map_nil]); first | done | rfl) ?_
      with_reducible refine (height_any t.f0 t.f1 _ (TabH.below HTH0.out HB3.out) HT.out).mono ?_
      rintro e we ⟨rfl, hb⟩
      refine ⟨_, rfl, ?_⟩
      have HZ' := am (blk_below HZ.out hb)
      have HB' := am (below_step HB3.out hb)
      clear HZ HB3 hb
      have HZ := HZ'
      have HB3 := HB'
      clear HZ' HB'
      refine hK.out _ _ ⟨blk_cell HZ.out 0, blk_cell HZ.out 1, cell_low HB3.out HX0.out, cell_low HB3.out HX1.out⟩ (fun hHeld => ?_)
      clear hK K
      refine norm_ (a' := ?_) ?_ ?_
      rotate_left
      ·show Act.put _ (some 42) _ = _
       simp only [Act.put, sA, sZ, sS, i64_w, i32_w]
       rfl
      refine pz 8 (some 43) #[T,T,T,T,T,T,T,T,T,F,F,F,F,F,F] (by kernel_rfl) (h := ?_)
      refine one_ (i := 9) (N := some 44) #[T,T,T,T,T,T,T,T,T,T,F,F,F,F,F] rfl rfl (by kernel_rfl) (by decide) (fun K hK => ?_)
      refine goes_ Tryz.func55 (by kernel_rfl) rfl #[.slice (some ad) l0.length c0, .int .i64 k, .int .i64 (wrap64 (htI (t.f0 + k) soft - htI t.f0 t.f1))] (by rfl) rfl rfl (by (try simp only [List.map_toArray, List.map_cons, List.map_nil]); first | done | rfl) ?_
      with_reducible refine (moved_yes (some ad) c0 l0 k (wrap64 (htI (t.f0 + k) soft - htI t.f0 t.f1)) xs _ (Kd.C_below HR0.out HB3.out) HC0.out (Nat.le_trans hl (by decide)) HV.out hk0 hk1 (TabH.below HTH0.out HB3.out) HM.out).mono ?_
      rintro e we ⟨v, rfl, ho, hb⟩
      have HO := am (Kd.R_lower ho (below_size HB3.out))
      clear ho
      refine ⟨_, rfl, ?_⟩
      have HZ' := am (blk_below HZ.out hb)
      have HB' := am (below_step HB3.out hb)
      clear HZ HB3 hb
      have HZ := HZ'
      have HB3 := HB'
      clear HZ' HB'
      refine hK.out _ _ ⟨blk_cell HZ.out 0, blk_cell HZ.out 1, cell_low HB3.out HX0.out, cell_low HB3.out HX1.out⟩ (fun hHeld => ?_)
      clear hK K
      refine norm_ (a' := ?_) ?_ ?_
      rotate_left
      ·show Act.put _ (some 44) _ = _
       simp only [Act.put, sA, sZ, sS, i64_w, i32_w]
       rfl
      refine pz 10 (some 34) #[T,T,T,T,T,T,T,T,T,T,T,F,F,F,F] (by kernel_rfl) (h := ?_)
      refine pz 11 (some 45) #[T,T,T,T,T,T,T,T,T,T,T,T,F,F,F] (by kernel_rfl) (h := ?_)
      refine pz 12 (some 46) #[T,T,T,T,T,T,T,T,T,T,T,T,T,F,F] (by kernel_rfl) (h := ?_)
      refine pz 13 (some 10) #[T,T,T,T,T,T,T,T,T,T,T,T,T,T,F] (by kernel_rfl) (h := ?_)
      refine pz 14 (some 11) #[T,T,T,T,T,T,T,T,T,T,T,T,T,T,T] (by kernel_rfl) (h := ?_)
      refine done_ (by kernel_rfl) ?_
      clear hHeld
      go_wp2
      go_ret2
      have e1 : mvMove k l0 = (xs, true) := by
       rw [HMV.out]
       have hj2 : j = 0 ∨ j = 1 := by omega
       rcases hj2 with rfl | rfl
       ·have : soft = false := by rw [HS.out]; rfl
        have h3 := HT2.out
        rw [this] at h3
        rw [h3]
       ·have : soft = true := by rw [HS.out]; rfl
        have h3 := HT2.out
        rw [this] at h3
        rw [HF.out (by omega), h3]
      rw [e1]
      exact ⟨_, rfl, HO.out, HB3.out⟩
     | none =>
      have HM := am hm
      have HT2 := am (show mvTry l0 t k soft = none by
       unfold mvTry
       rw [if_pos hok, ← HW.out]
       exact hm)
      clear hm
      go_wp2_with fail
      have HZ := am (blk_drew (blk_new w2 (.cells #[.int .i64 (t.f0 + k), .bool soft] 74)))
      have HB3 := am (below_drew1 (below_alloc HB2.out (.cells #[.int .i64 (t.f0 + k), .bool soft] 74)))
      clear HB2
      refine start_ (n := 15) (S := fun w' => w'.cell? ⟨w2.heap.size, 0, none⟩ = some (.int .i64 (t.f0 + k)) ∧ w'.cell? ⟨w2.heap.size, 1, none⟩ = some (.bool soft) ∧ w'.cell? ad = some (.int .i64 t.f0) ∧ w'.cell? ⟨ad.block, ad.off + 1, none⟩ = some (.bool t.f1)) (ds := []) #[F,F,F,F,F,F,F,F,F,F,F,F,F,F,F] (by kernel_rfl) rfl rfl ⟨blk_cell HZ.out 0, blk_cell HZ.out 1, cell_low HB3.out HX0.out, cell_low HB3.out HX1.out⟩ (fun hHeld => ?_)
      generalize (w2.alloc (.cells #[.int .i64 (t.f0 + k), .bool soft] 74)).drew = wd at HZ HB3 hHeld ⊢
      refine pz 0 (some 35) #[T,F,F,F,F,F,F,F,F,F,F,F,F,F,F] (by kernel_rfl) (h := ?_)
      refine pz 1 (some 36) #[T,T,F,F,F,F,F,F,F,F,F,F,F,F,F] (by kernel_rfl) (h := ?_)
      refine pz 4 (some 39) #[T,T,F,F,T,F,F,F,F,F,F,F,F,F,F] (by kernel_rfl) (h := ?_)
      refine pz 5 (some 40) #[T,T,F,F,T,T,F,F,F,F,F,F,F,F,F] (by kernel_rfl) (h := ?_)
      refine tz hHeld 2 (some 37) #[T,T,T,F,T,T,F,F,F,F,F,F,F,F,F] (by kernel_rfl) (h := ?_)
      refine tz hHeld 6 (some 41) #[T,T,T,F,T,T,T,F,F,F,F,F,F,F,F] (by kernel_rfl) (h := ?_)
      refine one_ (i := 3) (N := some 38) #[T,T,T,T,T,T,T,F,F,F,F,F,F,F,F] rfl rfl (by kernel_rfl) (by decide) (fun K hK => ?_)
      refine goes_ Tryz.func56 (by kernel_rfl) rfl #[.agg #[.int .i64 (t.f0 + k), .bool soft]] (by rfl) rfl rfl (by (try simp only [List.map_toArray, List.map_cons, List.map_nil]); first | done | rfl) ?_
      with_reducible refine (height_any (t.f0 + k) soft _ (TabH.below HTH0.out HB3.out) hok).mono ?_
      rintro e we ⟨rfl, hb⟩
      refine ⟨_, rfl, ?_⟩
      have HZ' := am (blk_below HZ.out hb)
      have HB' := am (below_step HB3.out hb)
      clear HZ HB3 hb
      have HZ := HZ'
      have HB3 := HB'
      clear HZ' HB'
      refine hK.out _ _ ⟨blk_cell HZ.out 0, blk_cell HZ.out 1, cell_low HB3.out HX0.out, cell_low HB3.out HX1.out⟩ (fun hHeld => ?_)
      clear hK K
      refine norm_ (a' := ?_) ?_ ?_
      rotate_left
      ·show Act.put _ (some 38) _ = _
       simp only [Act.put, sA, sZ, sS, i64_w, i32_w]
       rfl
      refine one_ (i := 7) (N := some 42) #[T,T,T,T,T,T,T,T,F,F,F,F,F,F,F] rfl rfl (by kernel_rfl) (by decide) (fun K hK => ?_)
      refine goes_ Tryz.func56 (by kernel_rfl) rfl #[.agg #[.int .i64 t.f0, .bool t.f1]] (by rfl) rfl rfl (by (try simp only [List.map_toArray, List.map_cons, List.map_nil]); first | done | rfl) ?_
      with_reducible refine (height_any t.f0 t.f1 _ (TabH.below HTH0.out HB3.out) HT.out).mono ?_
      rintro e we ⟨rfl, hb⟩
      refine ⟨_, rfl, ?_⟩
      have HZ' := am (blk_below HZ.out hb)
      have HB' := am (below_step HB3.out hb)
      clear HZ HB3 hb
      have HZ := HZ'
      have HB3 := HB'
      clear HZ' HB'
      refine hK.out _ _ ⟨blk_cell HZ.out 0, blk_cell HZ.out 1, cell_low HB3.out HX0.out, cell_low HB3.out HX1.out⟩ (fun hHeld => ?_)
      clear hK K
      refine norm_ (a' := ?_) ?_ ?_
      rotate_left
      ·show Act.put _ (some 42) _ = _
       simp only [Act.put, sA, sZ, sS, i64_w, i32_w]
       rfl
      refine pz 8 (some 43) #[T,T,T,T,T,T,T,T,T,F,F,F,F,F,F] (by kernel_rfl) (h := ?_)
      refine one_ (i := 9) (N := some 44) #[T,T,T,T,T,T,T,T,T,T,F,F,F,F,F] rfl rfl (by kernel_rfl) (by decide) (fun K hK => ?_)
      refine goes_ Tryz.func55 (by kernel_rfl) rfl #[.slice (some ad) l0.length c0, .int .i64 k, .int .i64 (wrap64 (htI (t.f0 + k) soft - htI t.f0 t.f1))] (by rfl) rfl rfl (by (try simp only [List.map_toArray, List.map_cons, List.map_nil]); first | done | rfl) ?_
      with_reducible refine (moved_no (some ad) c0 l0 k (wrap64 (htI (t.f0 + k) soft - htI t.f0 t.f1)) _ (Kd.C_below HR0.out HB3.out) HC0.out (Nat.le_trans hl (by decide)) HV.out hk0 hk1 (TabH.below HTH0.out HB3.out) HM.out).mono ?_
      rintro e we ⟨rfl, hb⟩
      refine ⟨_, rfl, ?_⟩
      have HZ' := am (blk_below HZ.out hb)
      have HB' := am (below_step HB3.out hb)
      clear HZ HB3 hb
      have HZ := HZ'
      have HB3 := HB'
      clear HZ' HB'
      refine hK.out _ _ ⟨blk_cell HZ.out 0, blk_cell HZ.out 1, cell_low HB3.out HX0.out, cell_low HB3.out HX1.out⟩ (fun hHeld => ?_)
      clear hK K
      refine norm_ (a' := ?_) ?_ ?_
      rotate_left
      ·show Act.put _ (some 44) _ = _
       simp only [Act.put, sA, sZ, sS, i64_w, i32_w]
       rfl
      refine pz 10 (some 34) #[T,T,T,T,T,T,T,T,T,T,T,F,F,F,F] (by kernel_rfl) (h := ?_)
      refine pz 11 (some 45) #[T,T,T,T,T,T,T,T,T,T,T,T,F,F,F] (by kernel_rfl) (h := ?_)
      refine pz 12 (some 46) #[T,T,T,T,T,T,T,T,T,T,T,T,T,F,F] (by kernel_rfl) (h := ?_)
      refine pz 13 (some 10) #[T,T,T,T,T,T,T,T,T,T,T,T,T,T,F] (by kernel_rfl) (h := ?_)
      refine pz 14 (some 11) #[T,T,T,T,T,T,T,T,T,T,T,T,T,T,T] (by kernel_rfl) (h := ?_)
      refine done_ (by kernel_rfl) ?_
      clear hHeld
      go_wp2
      go_roundg (2 - (j + 1))
      case measure => have := HJ.out; omega
      case rel =>
       refine ⟨j + 1, by simp, ⟨by omega, rfl⟩, ⟨fun _ => ?_⟩, ⟨fun h1 => ?_⟩, ⟨HB3.out⟩⟩
       ·by_cases hj0 : j = 0
        ·have : soft = false := by rw [HS.out, hj0]; rfl
         have h3 := HT2.out
         rw [this] at h3
         exact h3
        ·exact HF.out (by omega)
       ·have : soft = true := by rw [HS.out, show j = 1 by omega]; rfl
        have h3 := HT2.out
        rw [this] at h3
        exact h3
    ·have hok := Bool.eq_false_iff.mpr hok
     have HT2 := am (show mvTry l0 t k soft = none by
      unfold mvTry
      rw [hok]
      rfl)
     go_wp2_with fail
     refine (above_no t.f0 t.f1 k soft _ HT.out hk0 hk1 hok).mono ?_
     rintro e w2 ⟨rfl, hb2⟩
     have HB2 := am (below_step HBi.out hb2)
     clear k0 k1 hb2 HBi
     go_wp2
     go_roundg (2 - (j + 1))
     case measure => have := HJ.out; omega
     case rel =>
      refine ⟨j + 1, by simp, ⟨by omega, rfl⟩, ⟨fun _ => ?_⟩, ⟨fun h1 => ?_⟩, ⟨below_alloc HB2.out _⟩⟩
      ·by_cases hj0 : j = 0
       ·have : soft = false := by rw [HS.out, hj0]; rfl
        have h3 := HT2.out
        rw [this] at h3
        exact h3
       ·exact HF.out (by omega)
      ·have : soft = true := by rw [HS.out, show j = 1 by omega]; rfl
       have h3 := HT2.out
       rw [this] at h3
       exact h3
  ·have e : j = 2 := by have := HJ.out.1; omega
   subst e
   go_wp2
   go_ret2
   have e1 : mvMove k l0 = ([], false) := by rw [HMV.out, HF.out (by omega), HF2.out (by omega)]
   rw [e1]
   exact ⟨_, rfl, Kd.R_nil _ _ _ _ _, HBi.out⟩
def impl_MelodyMove.f (n : Nat) (l0 : List S74) (k : Int) : Option (List S74 × Bool) := (impl_MelodyValid.f n l0).bind fun ok => some (if ok = true then mvMove k l0 else ([], false))
theorem impl_MelodyMove.mono : ∀ a0 a1 n, LeO (impl_MelodyMove.f n a0 a1) (impl_MelodyMove.f (n + 1) a0 a1) := by
 intro a0 a1 n
 unfold impl_MelodyMove.f
 exact LeO.bind (impl_MelodyValid.mono _ _) (fun _ => LeO.refl _)
theorem impl_MelodyMove.calls (n : Nat) (A0 : Option Addr) (c0 : Nat) (l0 : List (S74)) (a1 : Int) (r1 : List (S74)) (r2 : Bool) (w : World) (hr0 : Kd.C k74 w A0 l0.length l0) (hc0 : l0.length ≤ c0) (hTH : TabH w) (h : impl_MelodyMove.f n l0 a1 = some (r1, r2)) :
  Calls Tryz.prog 23 #[.slice A0 l0.length c0, .int .i64 a1] w fun e w' => ∃ v0_ : Value, e = .returned (.tuple #[v0_, .bool r2]) ∧ Kd.R k74 74 w' w.heap.size (fun _ => True) v0_ r1 ∧ Below w.heap.size w w' := by
 obtain ⟨ok, h0, h⟩ := Option.bind_eq_some_iff.mp h
 have e1 := Option.some.inj h
 clear h
 cases ok with
 | false =>
  rw [if_neg (by decide)] at e1
  obtain ⟨rfl, rfl⟩ := Prod.mk.inj e1
  exact (move_none n A0 c0 l0 a1 w hr0 hc0 h0).mono fun e w' ⟨he, hb⟩ => ⟨_, he, Kd.R_nil _ _ _ _ _, hb⟩
 | true =>
  rw [if_pos rfl] at e1
  by_cases hp : 0 < l0.length
  ·by_cases hk : -20 ≤ a1 ∧ a1 ≤ 20
   ·have e2 := Prod.mk.inj (show ((mvMove a1 l0).1, (mvMove a1 l0).2) = (r1, r2) from e1)
    rw [← e2.1, ← e2.2]
    exact move_in n A0 c0 l0 a1 w hr0 hc0 h0 hp hk.1 hk.2 hTH
   ·have e2 : mvMove a1 l0 = ([], false) := by
     cases l0 with
     | nil => simp at hp
     | cons t ts => unfold mvMove; dsimp only; rw [if_neg hk]
    rw [e2] at e1
    obtain ⟨rfl, rfl⟩ := Prod.mk.inj e1
    exact (move_out n A0 c0 l0 a1 w hr0 hc0 h0 hp hk).mono fun e w' ⟨he, hb⟩ => ⟨_, he, Kd.R_nil _ _ _ _ _, hb⟩
  ·have e0 : l0 = [] := List.length_eq_zero_iff.mp (by omega)
   subst e0
   obtain ⟨rfl, rfl⟩ := Prod.mk.inj (show (([] : List S74), true) = (r1, r2) from e1)
   exact move_nil n A0 c0 a1 w hr0 h0


/-! ### stringslite_HasPrefix: function 222 -/
def stringslite_HasPrefix.f (a0 : ByteArray) (a1 : ByteArray) : Option (Bool) := if (a0.size : Int) ≥ (a1.size : Int) then (if 0 ≤ (a1.size : Int) then (if (a1.size : Int) ≤ (a0.size : Int) then (some ((a0.extract 0 ((a1.size : Int) : Int).toNat).toList == a1.toList)) else (none)) else (none)) else (some false)
set_option maxHeartbeats 8000000 in
set_option maxRecDepth 100000 in
theorem stringslite_HasPrefix.calls (a0 : ByteArray) (a1 : ByteArray) (r : Bool) (w : World) (h : stringslite_HasPrefix.f a0 a1 = some r) :
  Calls Tryz.prog 222 #[.string a0, .string a1] w fun e w' => e = .returned (.bool r) ∧ Drawn0 w w' := by
 have H : (if (a0.size : Int) ≥ (a1.size : Int) then (if 0 ≤ (a1.size : Int) then (if (a1.size : Int) ≤ (a0.size : Int) then (some ((a0.extract 0 ((a1.size : Int) : Int).toNat).toList == a1.toList)) else (none)) else (none)) else (some false)) = some r := h
 clear h
 by_cases c3 : (a0.size : Int) ≥ (a1.size : Int)
 ·rw [if_pos c3] at H
  have c3b0 : decide ((a1.size : Int) ≤ (a0.size : Int)) = true := decide_eq_true c3
  have c3b1 : decide (a1.size ≤ a0.size) = true := decide_eq_true (Int.ofNat_le.mp c3)
  clear c3
  by_cases c4 : 0 ≤ (a1.size : Int)
  ·rw [if_pos c4] at H
   have c4b0 := eq_true c4
   have c4b1 : decide (0 ≤ (a1.size : Int)) = true := decide_eq_true c4
   clear c4
   by_cases c5 : (a1.size : Int) ≤ (a0.size : Int)
   ·rw [if_pos c5] at H
    have c5b0 := eq_true c5
    have c5b1 : decide ((a1.size : Int) ≤ (a0.size : Int)) = true := decide_eq_true c5
    clear c5
    obtain rfl := Option.some.inj H
    go_enter Tryz.func222, Tryz.ntmps222
    go_wp2
    go_ret
    exact ⟨by first | rfl | (simp; done) | (simp [*]; done), by repeat (first | exact Drawn0.refl _ | apply Drawn0.step)⟩
   ·rw [if_neg c5] at H
    exact absurd H (by simp)
  ·rw [if_neg c4] at H
   exact absurd H (by simp)
 ·rw [if_neg c3] at H
  have c3b0 : decide ((a1.size : Int) ≤ (a0.size : Int)) = false := decide_eq_false c3
  have c3b1 : decide (a1.size ≤ a0.size) = false := decide_eq_false (fun h => c3 (Int.ofNat_le.mpr h))
  clear c3
  obtain rfl := Option.some.inj H
  go_enter Tryz.func222, Tryz.ntmps222
  go_wp2
  go_ret
  exact ⟨by first | rfl | (simp; done) | (simp [*]; done), by repeat (first | exact Drawn0.refl _ | apply Drawn0.step)⟩

end Go.Proofs.YtjnkmckklmabcaaGreatDoor.XM
