-- Made by this session's gprint.py out of the translation. Not trusted: Lean checks it.
import Derived.Test.YtcndojoghmblaaaDoorShelf
import Derived.Test.YtcndojoghmblaaaDoorMTx0
import Derived.Test.YtcndojoghmblaaaDoorMTx2
import Derived.Test.YtcndojoghmblaaaDoorMTx3
import Derived.Test.YtcndojoghmblaaaDoorMTx4
namespace Go.Proofs.YtcndojoghmblaaaDoor.MT
open Go.RowKit Go.Proofs.YtcndojoghmblaaaDoorW.PrintWords Go.Proofs.YtcndojoghmblaaaDoorW.PrintLast Go.Proofs.YtcndojoghmblaaaDoorW.PrintMore
attribute [local go_sem] max2_int min2_int max_two min_two max_three min_three max_four min_four   -- for this text's walks alone
set_option linter.unusedVariables false
set_option linter.unusedSimpArgs false

/-! ### ToneFrom, by hand -/
def tfOk (s : ByteArray) (m : Nat) (b : Bool) : Bool := (impl_Tone_valid.f (m : Int) b == some true) && (((impl_Tone_text.f (m : Int) b).getD ⟨#[]⟩).toList == s.toList)
def tfGo (s : ByteArray) : Nat → Nat → S30 × Bool
 | 0, _ => (⟨0, false⟩, false)
 | d + 1, m => if tfOk s m false = true then (⟨(m : Int), false⟩, true) else if tfOk s m true = true then (⟨(m : Int), true⟩, true) else tfGo s d (m + 1)
theorem tf_all : ∀ m, m < 21 → ∀ b : Bool, (impl_Tone_text.f ((m : Nat) : Int) b).isSome = true := by decide +kernel
theorem tf_some {m : Nat} (h : m < 21) (b : Bool) : impl_Tone_text.f (m : Int) b = some ((impl_Tone_text.f (m : Int) b).getD ⟨#[]⟩) := by
 obtain ⟨v, hv⟩ := Option.isSome_iff_exists.1 (tf_all m h b)
 rw [hv]; rfl
theorem tf_valid (m : Nat) (b : Bool) : ∃ v, impl_Tone_valid.f (m : Int) b = some v := by
 unfold impl_Tone_valid.f
 split
 ·split
  ·split
   ·exact ⟨_, rfl⟩
   ·exact ⟨_, rfl⟩
  ·exact ⟨_, rfl⟩
 ·exact ⟨_, rfl⟩
set_option maxHeartbeats 8000000 in
set_option maxRecDepth 100000 in
theorem toneFrom_any (s : ByteArray) (w : World) (hTL : TabL w) :
  Calls Tryd.prog 108 #[.string s] w fun e w' => e = .returned (.tuple #[.agg #[.int .i64 (tfGo s 21 0).1.f0, .bool (tfGo s 21 0).1.f1], .bool (tfGo s 21 0).2]) ∧ Below w.heap.size w w' := by
 have hu2 := Tryd.underlying30
 have hix0 : ∀ w : World, (Instr.index 106 (.agg #[.bool false, .bool true]) (.int .i64 0)).run Tryd.prog w = .ok (.bool false) w := fun w => by kernel_rfl
 have hix1 : ∀ w : World, (Instr.index 106 (.agg #[.bool false, .bool true]) (.int .i64 1)).run Tryd.prog w = .ok (.bool true) w := fun w => by kernel_rfl
 have HTL := am hTL
 have HG0 := am (blk_new w (.cells #[.int .i64 0, .bool false] 30))
 have HB0 := am (below_alloc (Below.refl w.heap.size w) (.cells #[.int .i64 0, .bool false] 30))
 obtain ⟨G, hG⟩ : ∃ G, G = tfGo s 21 0 := ⟨_, rfl⟩
 have HG := am hG
 rw [← hG]
 clear hTL hG
 go_enter Tryd.func108, Tryd.ntmps108
 go_wp2_with fail
 go_loopg [3, 8] 21 (fun kq v3 v8 w' => ∃ i : Nat, v8 = .int .i64 (i : Int) ∧ v3 = .bool false ∧ Aside0 (i ≤ 21 ∧ kq = 21 - i) ∧ Aside0 (G = tfGo s (21 - i) i) ∧ Aside0 (w'.heap[w.heap.size]? = some (.cells #[.int .i64 0, .bool false] 30 (0, 0))) ∧ Aside0 (Below w.heap.size w w'))
 case atStart => exact ⟨0, rfl, rfl, ⟨by omega, by omega⟩, HG, HG0, HB0⟩
 case round =>
  obtain ⟨i, rfl, rfl, HI, HGi, HGb, HB⟩ := hrel
  clear HG HG0 HB0
  by_cases hi : i < 21
  ·have p0 : ((i : Int) < 21) = True := eq_true (by omega)
   go_wp2_with fail
   go_loopg [3, 12] 2 (fun kq v3 v12 w' => ∃ j : Nat, v12 = .int .i64 (j : Int) ∧ v3 = .bool false ∧ Aside0 (j ≤ 2 ∧ kq = 2 - j) ∧ Aside0 (0 < j → tfOk s i false = false) ∧ Aside0 (1 < j → tfOk s i true = false) ∧ Aside0 (w'.heap[w.heap.size]? = some (.cells #[.int .i64 0, .bool false] 30 (0, 0))) ∧ Aside0 (Below w.heap.size w w'))
   case atStart => exact ⟨0, rfl, rfl, ⟨by omega, by omega⟩, ⟨fun h => by omega⟩, ⟨fun h => by omega⟩, HGb, HB⟩
   case round =>
    obtain ⟨j, rfl, rfl, HJ, HF, HF2, HGc, HBi⟩ := hrel
    by_cases hj : j < 2
    ·obtain ⟨soft, hs⟩ : ∃ soft, soft = decide (j = 1) := ⟨_, rfl⟩
     have HS := am hs
     clear hs
     go_upto_region 6 with fail
     go_cut [6] (fun v6 wc => v6 = .bool soft ∧ wc = wr)
     case first =>
      have hj2 : j = 0 ∨ j = 1 := by omega
      rcases hj2 with rfl | rfl
      all_goals
       go_wp2
       go_meet
       exact ⟨by rw [HS.out]; rfl, rfl⟩
     case rest =>
      obtain ⟨rfl, hwc⟩ := hcut
      subst hwc
      obtain ⟨vv, hvv⟩ := tf_valid i soft
      have HV := am hvv
      have HT := am (tf_some hi soft)
      obtain ⟨tx, htx⟩ : ∃ tx, tx = (impl_Tone_text.f (i : Int) soft).getD ⟨#[]⟩ := ⟨_, rfl⟩
      have HOK := am (show tfOk s i soft = ((vv == true) && (tx.toList == s.toList)) by unfold tfOk; rw [hvv, ← htx]; cases vv <;> rfl)
      rw [← htx] at HT
      clear hvv htx
      go_wp2_with fail
      refine (impl_Tone_valid.calls (i : Int) soft vv _ HV.out).mono ?_
      rintro e w5 ⟨rfl, hb⟩
      have HZ5 := am (blk_below (blk_new wc (.cells #[.int .i64 (i : Int), .bool soft] 30)) hb)
      have HB5 := am (below_step (below_alloc HBi.out _) hb)
      have HG5 := am (blk_below (blk_alloc HGc.out _) hb)
      have k0 : w5.cell? ⟨wc.heap.size, 0, none⟩ = some (.int .i64 (i : Int)) := blk_cell HZ5.out 0
      have k1 : w5.cell? ⟨wc.heap.size, 1, none⟩ = some (.bool soft) := blk_cell HZ5.out 1
      clear hb HGc HBi
      cases vv with
      | false =>
       have HNO := am (show tfOk s i soft = false by rw [HOK.out]; rfl)
       go_wp2_with fail
       go_roundg (2 - (j + 1))
       case measure => have := HJ.out; omega
       case rel =>
        refine ⟨j + 1, by simp, rfl, ⟨by omega, rfl⟩, ⟨fun _ => ?_⟩, ⟨fun _ => ?_⟩, HG5, HB5⟩
        ·by_cases hj0 : j = 0
         ·have e := HNO.out
          rw [HS.out, hj0] at e
          exact e
         ·exact HF.out (by omega)
        ·have e := HNO.out
         rw [HS.out, decide_eq_true (show j = 1 by omega)] at e
         exact e
      | true =>
       go_wp2_with fail
       refine (impl_Tone_text.calls (i : Int) soft tx _ (TabAt.below HTL.out HB5.out) HT.out).mono ?_
       rintro e w6 ⟨rfl, hb⟩
       have HZ6 := am (blk_below HZ5.out hb)
       have HB6 := am (below_step HB5.out hb)
       have HG6 := am (blk_below HG5.out hb)
       clear hb HZ5 HB5 HG5 k0 k1
       have k0 : w6.cell? ⟨wc.heap.size, 0, none⟩ = some (.int .i64 (i : Int)) := blk_cell HZ6.out 0
       have k1 : w6.cell? ⟨wc.heap.size, 1, none⟩ = some (.bool soft) := blk_cell HZ6.out 1
       by_cases heq : tx.toList = s.toList
       ·have b0 : (tx.toList == s.toList) = true := by rw [heq]; exact beq_self_eq_true _
        have HYES := am (show tfOk s i soft = true by rw [HOK.out, b0]; rfl)
        have q0 : w6.cell? ⟨w.heap.size, 0, none⟩ = some (.int .i64 0) := blk_cell HG6.out 0
        have q1 : w6.cell? ⟨w.heap.size, 1, none⟩ = some (.bool false) := blk_cell HG6.out 1
        have qf := fun i => blk_frozen HG6.out i
        have HEQ := am heq
        clear heq
        go_wp2_with fail
        have HGS := am (show G = (⟨(i : Int), soft⟩, true) by
         rw [HGi.out, show 21 - i = (21 - (i + 1)) + 1 by omega]
         simp only [tfGo]
         by_cases hj0 : j = 0
         ·have e : soft = false := by rw [HS.out]; exact decide_eq_false (by omega)
          have y := HYES.out
          rw [e] at y ⊢
          rw [if_pos y]
         ·have e : soft = true := by rw [HS.out]; exact decide_eq_true (by omega)
          have y := HYES.out
          rw [e] at y ⊢
          rw [if_neg (by rw [HF.out (by omega)]; decide), if_pos y])
        refine bodyPost_ret (results_ct rfl _ _ w.heap.size 30 #[.int .i64 (i : Int), .bool soft] (0, 0) _ rfl (blk_put (cs' := #[.int .i64 (i : Int), .bool soft]) (blk_put (cs' := #[.int .i64 (i : Int), .bool false]) HG6.out 0 (.int .i64 (i : Int)) rfl) 1 (.bool soft) rfl) Tryd.underlying30 rfl (by kernel_rfl)) rfl ?_
        exact ⟨by rw [HGS.out]; rfl, below_set (below_set HB6.out (Nat.le_refl _)) (Nat.le_refl _)⟩
       ·have b0 : (tx.toList == s.toList) = false := beq_eq_false_iff_ne.2 heq
        have HNO := am (show tfOk s i soft = false by rw [HOK.out, b0]; rfl)
        clear heq
        go_wp2_with fail
        go_roundg (2 - (j + 1))
        case measure => have := HJ.out; omega
        case rel =>
         refine ⟨j + 1, by simp, rfl, ⟨by omega, rfl⟩, ⟨fun _ => ?_⟩, ⟨fun _ => ?_⟩, HG6, HB6⟩
         ·by_cases hj0 : j = 0
          ·have e := HNO.out
           rw [HS.out, hj0] at e
           exact e
          ·exact HF.out (by omega)
         ·have e := HNO.out
          rw [HS.out, decide_eq_true (show j = 1 by omega)] at e
          exact e
    ·have ej : j = 2 := by have := HJ.out; omega
     subst ej
     have HN0 := am (HF.out (by omega))
     have HN1 := am (HF2.out (by omega))
     have HST := am (show G = tfGo s (21 - (i + 1)) (i + 1) by
      rw [HGi.out, show 21 - i = (21 - (i + 1)) + 1 by omega]
      simp only [tfGo]
      rw [HN0.out, HN1.out, if_neg (by decide), if_neg (by decide)])
     clear HF HF2
     go_wp2_with fail
     go_roundg (21 - (i + 1))
     case measure => have := HI.out; omega
     case rel => exact ⟨i + 1, by simp, rfl, ⟨by omega, rfl⟩, HST, HGc, HBi⟩
  ·have ei : i = 21 := by have := HI.out; omega
   subst ei
   have HGE := am (show G = (⟨0, false⟩, false) from HGi.out)
   have q0 : wr.cell? ⟨w.heap.size, 0, none⟩ = some (.int .i64 0) := blk_cell HGb.out 0
   have q1 : wr.cell? ⟨w.heap.size, 1, none⟩ = some (.bool false) := blk_cell HGb.out 1
   have qf := fun i => blk_frozen HGb.out i
   go_wp2_with fail
   refine bodyPost_ret (results_ct rfl _ _ w.heap.size 30 #[.int .i64 0, .bool false] (0, 0) _ rfl (blk_put (cs' := #[.int .i64 0, .bool false]) (blk_put (cs' := #[.int .i64 0, .bool false]) HGb.out 0 (.int .i64 0) rfl) 1 (.bool false) rfl) Tryd.underlying30 rfl (by kernel_rfl)) rfl ?_
   exact ⟨by rw [HGE.out]; rfl, below_set (below_set HB.out (Nat.le_refl _)) (Nat.le_refl _)⟩


/-! ### MelodyFrom, by hand (strings.Split by the shelf's contract) -/
theorem infoMF : (Tryd.prog.info? 30).map (fun i => (i.zero, i.size, i.bytes)) = some (some (.agg #[.int .i64 0, .bool false]), 2, 16) := by kernel_rfl
def splitW (s : ByteArray) : List ByteArray := Lib.splitB ⟨#[32]⟩ 0 (Lib.countB s ⟨#[32]⟩) s
def mfGo : List ByteArray → List S30 → Option (List S30)
 | [], acc => some acc
 | x :: xs, acc => if (tfGo x 21 0).2 = false then none else if acc.length = 24 then none else mfGo xs (acc ++ [(tfGo x 21 0).1])
def mfRes (s : ByteArray) : List S30 × Bool := if s.toList = [] then ([], true) else match mfGo (splitW s) [] with | some l => (l, true) | none => ([], false)
def impl_MelodyFrom.f (n : Nat) (s : ByteArray) : Option (List S30 × Bool) := if s.size < 4294967281 then some (mfRes s) else none
theorem mf_empty {α : Type} (d : Kd α) (e : Nat) {W : World} {g base : Nat} (ok : Nat → Prop) (hok : ok g) (h : W.heap[g]? = some (.cells #[] e (0, 0))) (hb : base ≤ g) : d.R e W base ok (.slice (some ⟨g, 0, none⟩) 0 0) ([] : List α) :=
 ⟨fun k hk => by
  simp [Value.ownBlock] at hk
  subst hk
  exact hok, [], ⟨by simp, .inr ⟨g, 0, #[], rfl, hb, h, Nat.le_refl _, by simp [maxLen], by simp, by simp⟩⟩, Reps.none _ _⟩
theorem splitW_len (s : ByteArray) : (splitW s).length = Lib.countB s ⟨#[32]⟩ + 1 := Lib.splitB_all ⟨#[32]⟩ (by decide) 0 _ s rfl
theorem splitW_le (s : ByteArray) : (splitW s).length ≤ s.size + 1 := by
 rw [splitW_len]
 have := Lib.countB_le ⟨#[32]⟩ (by decide) s.size s (Nat.le_refl _)
 omega
set_option maxHeartbeats 8000000 in
set_option maxRecDepth 100000 in
theorem impl_MelodyFrom.calls (n : Nat) (s : ByteArray) (r1 : List S30) (r2 : Bool) (w : World) (hTL : TabL w) (hTM : TabM w) (h : impl_MelodyFrom.f n s = some (r1, r2)) :
  Calls Tryd.prog 54 #[.string s] w fun e w' => ∃ v0_ : Value, e = .returned (.tuple #[v0_, .bool r2]) ∧ Kd.R k30 30 w' w.heap.size (fun _ => True) v0_ r1 ∧ Below w.heap.size w w' := by
 unfold impl_MelodyFrom.f at h
 by_cases hsz : s.size < 4294967281
 ·rw [if_pos hsz] at h
  replace h := Option.some.inj h
  have hu2 := Tryd.underlying30
  have HTL := am hTL
  have HTM := am hTM
  have HZ0 := am (blk_new w (.cells #[] 30))
  have HB0 := am (below_alloc (Below.refl w.heap.size w) (.cells #[] 30))
  have HSZ := am hsz
  clear hTL hTM hsz
  by_cases h0 : s.toList = []
  ·unfold mfRes at h
   rw [if_pos h0] at h
   obtain ⟨rfl, rfl⟩ : ([] : List S30) = r1 ∧ true = r2 := by simpa using h
   have b0 : (s.toList == ([] : List UInt8)) = true := by rw [h0]; rfl
   have H0 := am h0
   clear h h0
   go_enter Tryd.func54, Tryd.ntmps54
   go_wp2_with fail
   go_ret2
   exact ⟨_, rfl, mf_empty _ _ _ trivial HZ0.out (Nat.le_refl _), HB0.out⟩
  ·unfold mfRes at h
   rw [if_neg h0] at h
   have b0 : (s.toList == ([] : List UInt8)) = false := beq_eq_false_iff_ne.2 h0
   have HR := am h
   have H0 := am h0
   clear h h0
   go_enter Tryd.func54, Tryd.ntmps54
   go_wp2_with fail
   obtain ⟨mm, hmm⟩ := TabM.below HTM.out HB0.out
   refine (Tryd.strings_Split s ⟨#[32]⟩ mm _ HSZ.out hmm (by decide)).mono ?_
   rintro e w1 ⟨rfl, rfl⟩
   obtain ⟨ws, hws⟩ : ∃ ws, ws = splitW s := ⟨_, rfl⟩
   have hln := splitW_len s
   have hle := splitW_le s
   rw [← hws] at HR hln hle
   rw [show Lib.splitB ⟨#[32]⟩ 0 (Lib.countB s ⟨#[32]⟩) s = ws from hws.symm, ← hln]
   obtain ⟨nw, hnw⟩ : ∃ nw, nw = ws.length := ⟨_, rfl⟩
   rw [← hnw] at hle ⊢
   have HNW := am hnw
   have HLE := am (show nw ≤ 4294967281 by have := HSZ.out; omega)
   obtain ⟨gs, hgs⟩ : ∃ gs, gs = (w.alloc (.cells #[] 30)).heap.size := ⟨_, rfl⟩
   have HW1 := am (blk_new (w.alloc (.cells #[] 30)) (.cells (ws.map Value.string).toArray 9))
   have HZ1 := am (blk_alloc HZ0.out (.cells (ws.map Value.string).toArray 9))
   have HB1 := am (below_alloc HB0.out (.cells (ws.map Value.string).toArray 9))
   rw [← hgs] at HW1 ⊢
   generalize (w.alloc (.cells #[] 30)).alloc (.cells (ws.map Value.string).toArray 9) = W1 at HW1 HZ1 HB1 ⊢
   clear hws hln hle hnw hgs hmm HB0 HZ0
   go_wp2_with fail
   go_loopg [2, 3, 4, 16] nw (fun kq v2 v3 v4 v16 w' => ∃ (i : Nat) (acc : List S30), v16 = .int .i64 (i : Int) ∧ v2 = .slice none 0 0 ∧ v3 = .bool false ∧ Aside0 (i ≤ nw ∧ kq = nw - i) ∧ Aside0 (mfGo ws [] = mfGo (ws.drop i) acc) ∧ Aside0 (acc.length ≤ 24) ∧ Aside0 (w'.heap[gs]? = some (.cells (ws.map Value.string).toArray 9 (0, 0))) ∧ Aside0 (Kd.R k30 30 w' w.heap.size (fun _ => True) v4 acc) ∧ Aside0 (Below w.heap.size w w'))
   case atStart => exact ⟨0, [], rfl, rfl, rfl, ⟨by omega, by omega⟩, ⟨rfl⟩, ⟨by simp⟩, HW1, ⟨mf_empty _ _ _ trivial HZ1.out (Nat.le_refl _)⟩, HB1⟩
   case round =>
    obtain ⟨i, acc, rfl, rfl, rfl, HI, HM, HA, HW, HO, HB⟩ := hrel
    clear HW1 HZ1 HB1
    obtain ⟨A4, c4, e4⟩ := Kd.R_slice HO.out
    subst e4
    by_cases hi : i < nw
    ·have hin : i < ws.length := by rw [← HNW.out]; exact hi
     obtain ⟨x, hx⟩ : ∃ x, x = ws[i] := ⟨_, rfl⟩
     have HD := am (show ws.drop i = x :: ws.drop (i + 1) by rw [List.drop_eq_getElem_cons hin, hx])
     have k0 : wr.cell? ⟨gs, i, none⟩ = some (.string x) := by
      rw [cell_of_row wr gs i _ _ (0, 0) HW.out, hx]
      simp [hin]
     have p0 : 0 ≤ (i : Int) := by omega
     have p1 : (i : Int) < (nw : Int) := by omega
     replace p0 := eq_true p0
     replace p1 := eq_true p1
     obtain ⟨P, hP⟩ : ∃ P, P = tfGo x 21 0 := ⟨_, rfl⟩
     have hc := toneFrom_any x wr (TabAt.below HTL.out HB.out)
     rw [← hP] at hc
     obtain ⟨⟨t0, t1⟩, ok⟩ := P
     dsimp only at hc
     have HP := am hP
     have HSTEP := am (show mfGo ws [] = if ok = false then none else if acc.length = 24 then none else mfGo (ws.drop (i + 1)) (acc ++ [⟨t0, t1⟩]) by
      rw [HM.out, HD.out]
      simp only [mfGo]
      rw [← HP.out])
     have HC := am hc
     clear hx hP hc hin HM
     go_wp2_with fail
     refine HC.out.mono ?_
     rintro e w2 ⟨rfl, hb⟩
     have HW2 := am (blk_below HW.out hb)
     have HO2 := am (Kd.R_below HO.out hb)
     have HB2 := am (below_step HB.out hb)
     clear hb HW HO HB k0 HC
     cases ok with
     | false =>
      have e := HR.out
      rw [HSTEP.out, if_pos rfl] at e
      have E1 := am (show r1 = [] from (congrArg Prod.fst e).symm)
      have E2 := am (show r2 = false from (congrArg Prod.snd e).symm)
      clear e
      go_wp2_with fail
      go_ret2
      exact ⟨.slice none 0 0, by rw [E2.out]; rfl, by rw [E1.out]; exact Kd.R_nil _ _ _ _ _, below_alloc HB2.out _⟩
     | true =>
      by_cases h24 : acc.length = 24
      ·have b1 : ((acc.length : Int) == 24) = true := by rw [h24]; rfl
       have e := HR.out
       rw [HSTEP.out, if_neg (by decide), if_pos h24] at e
       have E1 := am (show r1 = [] from (congrArg Prod.fst e).symm)
       have E2 := am (show r2 = false from (congrArg Prod.snd e).symm)
       clear e h24
       go_wp2_with fail
       go_ret2
       exact ⟨.slice none 0 0, by rw [E2.out]; rfl, by rw [E1.out]; exact Kd.R_nil _ _ _ _ _, below_alloc HB2.out _⟩
      ·have b1 : ((acc.length : Int) == 24) = false := beq_eq_false_iff_ne.2 (by omega)
       have HS2 := am (show mfGo ws [] = mfGo (ws.drop (i + 1)) (acc ++ [⟨t0, t1⟩]) by rw [HSTEP.out, if_neg (by decide), if_neg h24])
       have HAL := am (show acc.length + 1 ≤ 24 by have := HA.out; omega)
       clear h24
       go_upto_region 10 with fail
       have HZ7 := am (blk_new w2 (.cells #[.int .i64 t0, .bool t1] 30))
       have HW3 := am (blk_alloc HW2.out (.cells #[.int .i64 t0, .bool t1] 30))
       have HO3 := am (Kd.R_alloc HO2.out (.cells #[.int .i64 t0, .bool t1] 30))
       have HB3 := am (below_alloc HB2.out (.cells #[.int .i64 t0, .bool t1] 30))
       generalize w2.alloc (.cells #[.int .i64 t0, .bool t1] 30) = W3 at HZ7 HW3 HO3 HB3 ⊢
       have k0 := blk_cell HZ7.out 0
       have k1 := blk_cell HZ7.out 1
       simp only [List.getElem?_toArray, List.getElem?_cons_zero, List.getElem?_cons_succ] at k0 k1
       clear HO2 HB2 HW2
       go_wp2_with (first | ((with_reducible refine gate_builtin (b := .append) (xs := #[.tmp 32, .tmp 34]) rfl ?_); at_builtin; refine Kd.R_append k30 (w0 := w) w.heap.size rfl (.tmp 32) (.tmp 34) 42 30 (.agg #[.int .i64 0, .bool false]) 16 rfl Tryd.underlying42 infoMF rfl (by decide) (by omega) (.slice A4 acc.length c4) acc (⟨t0, t1⟩ : S30) [.int .i64 t0, .bool t1] (fun _ => True) (fun _ => False) rfl rfl ?aP (fun _ hk => hk.elim) ?aF ?aO ?aB ?aS ?aL ?_; (case aP => exact k30_mkM _ _ _ (⟨t0, t1⟩ : S30)); (case aF => exact (fun _ _ => trivial)); (case aO => exact HO3.out); (case aB => exact HB3.out); (case aS => exact (below_size HB3.out)); (case aL => have := HAL.out; omega); intro v1 w6 ho hb hg hat; have HW6 := am (blk_grown HW3.out hg (Kd.R_ne HO3.out HW3.out (by decide))); have HO6 := am ho; have HB6 := am hb; clear ho hb hg hat))
       go_roundg (nw - (i + 1))
       case measure => have := HI.out; omega
       case rel => exact ⟨i + 1, acc ++ [⟨t0, t1⟩], (by have h1 := HLE.out; have h2 : wrap64 ((i : Int) + 1) = (i : Int) + 1 := (by unfold wrap64; omega); simp [h2]), rfl, rfl, ⟨by omega, rfl⟩, HS2, ⟨by rw [List.length_append]; exact HAL.out⟩, HW6, HO6, HB6⟩
    ·have ei : i = nw := by have := HI.out; omega
     subst ei
     have e := HR.out
     rw [HM.out, List.drop_eq_nil_of_le (by rw [← HNW.out]; exact Nat.le_refl _)] at e
     have E1 := am (show r1 = acc from (congrArg Prod.fst e).symm)
     have E2 := am (show r2 = true from (congrArg Prod.snd e).symm)
     clear e
     go_wp2_with fail
     go_ret2
     exact ⟨_, by rw [E2.out]; rfl, by rw [E1.out]; exact HO.out, HB.out⟩
 ·rw [if_neg hsz] at h
  exact absurd h (by simp)


/-! ### impl_MelodyBack: function 55 -/
def impl_MelodyBack.l0 : Nat → List (S30) → List (S30) → List (S30) → Int → Int → Option ((List (S30)) × Bool)
 | 0, _, _, _, _, _ => none
 | k + 1, x0, x4, x13, x14, x15 => if x15 < x14 then (if 0 ≤ x15 then (if x15 < (x13.length : Int) then (if 0 ≤ (wrap64 ((wrap64 ((x0.length : Int) - 1)) - x15)) then (if (wrap64 ((wrap64 ((x0.length : Int) - 1)) - x15)) < (x4.length : Int) then (impl_MelodyBack.l0 k x0 (x4.set ((wrap64 ((wrap64 ((x0.length : Int) - 1)) - x15)) : Int).toNat (⟨(rd_T30 x13 x15).f0, (rd_T30 x13 x15).f1⟩ : S30)) x13 x14 (wrap64 (x15 + 1))) else (none)) else (none)) else (none)) else (none)) else (some (x4, true))
def impl_MelodyBack.f (k : Nat) (l0 : List (S30)) : Option ((List (S30)) × Bool) := (impl_MelodyValid.f k l0).bind fun t182 => (if t182 = true then (if 0 ≤ (l0.length : Int) then (if ((l0.length : Int) : Int).toNat ≤ 17592186044416 then (impl_MelodyBack.l0 k l0 (List.replicate ((l0.length : Int) : Int).toNat z30) l0 (l0.length : Int) 0) else (none)) else (none)) else (some (([] : List (S30)), false)))
set_option maxHeartbeats 8000000 in
set_option maxRecDepth 100000 in
theorem impl_MelodyBack.calls (k : Nat) (A0 : Option Addr) (c0 : Nat) (l0 : List (S30)) (r1 : List (S30)) (r2 : Bool) (w : World) (hr0 : Kd.C k30 w A0 l0.length l0) (hc0 : l0.length ≤ c0) (h : impl_MelodyBack.f k l0 = some (r1, r2)) :
  Calls Tryd.prog 55 #[.slice A0 l0.length c0] w fun e w' => ∃ v0_ : Value, e = .returned (.tuple #[v0_, .bool r2]) ∧ Kd.R k30 30 w' w.heap.size (fun _ => True) v0_ r1 ∧ Below w.heap.size w w' := by
 have hu30 := Tryd.underlying30
 have HR0 := am hr0
 have HC0 := am hc0
 clear hr0 hc0
 have HB := am (Below.refl w.heap.size w)
 have H : ((impl_MelodyValid.f k l0).bind fun t182 => (if t182 = true then (if 0 ≤ (l0.length : Int) then (if ((l0.length : Int) : Int).toNat ≤ 17592186044416 then (impl_MelodyBack.l0 k l0 (List.replicate ((l0.length : Int) : Int).toNat z30) l0 (l0.length : Int) 0) else (none)) else (none)) else (some (([] : List (S30)), false)))) = some (r1, r2) := h
 clear h
 replace H := Option.bind_eq_some_iff.mp H
 obtain ⟨t182, A20, H⟩ := H
 replace H : (if t182 = true then (if 0 ≤ (l0.length : Int) then (if ((l0.length : Int) : Int).toNat ≤ 17592186044416 then (impl_MelodyBack.l0 k l0 (List.replicate ((l0.length : Int) : Int).toNat z30) l0 (l0.length : Int) 0) else (none)) else (none)) else (some (([] : List (S30)), false))) = some (r1, r2) := H
 have A2 := am A20
 clear A20
 by_cases c3 : t182 = true
 ·subst c3
  have H1 : (if 0 ≤ (l0.length : Int) then (if ((l0.length : Int) : Int).toNat ≤ 17592186044416 then (impl_MelodyBack.l0 k l0 (List.replicate ((l0.length : Int) : Int).toNat z30) l0 (l0.length : Int) 0) else (none)) else (none)) = some (r1, r2) := by rw [if_pos rfl] at H; exact H
  clear H
  have H := H1
  clear H1
  by_cases c4 : 0 ≤ (l0.length : Int)
  ·rw [if_pos c4] at H
   have c4b0 := eq_true c4
   have c4b1 : decide (0 ≤ (l0.length : Int)) = true := decide_eq_true c4
   clear c4
   by_cases c5 : ((l0.length : Int) : Int).toNat ≤ 17592186044416
   ·rw [if_pos c5] at H
    have c5b0 := eq_true c5
    have c5b1 : decide (((l0.length : Int) : Int).toNat ≤ 17592186044416) = true := decide_eq_true c5
    clear c5
    obtain ⟨y183, hy183⟩ : ∃ y_ : List (S30), y_ = (List.replicate ((l0.length : Int) : Int).toNat z30) := ⟨_, rfl⟩
    replace H : (impl_MelodyBack.l0 k l0 y183 l0 (l0.length : Int) 0) = some (r1, r2) := by first | (rw [hy183]; with_reducible exact H) | (have H2_ := (Option.bind_some _ _).symm.trans H; rw [hy183]; with_reducible exact H2_) | (have H2_ := (Option.bind_some _ _).symm.trans H; with_reducible exact H2_) | with_reducible exact H | (rw [hy183]; exact H) | exact H
    have Ny183 := am hy183
    clear hy183
    have H' := am H
    clear H
    go_enter Tryd.func55, Tryd.ntmps55
    go_wp2_with (first | ((with_reducible refine gate_callee (f := 58) rfl ?_); refine goesL_ (some 8) rfl rfl Tryd.func58 (by kernel_rfl) rfl #[.slice A0 l0.length c0] rfl (by (try simp only [List.map_toArray, List.map_cons, List.map_nil]); first | done | rfl | (simp only [List.length_drop, List.length_take]; rfl)) ?_; (with_reducible refine (impl_MelodyValid.calls k _ _ l0 true _ ?side1 ?side2 A2.out).mono ?_); (case side1 => exact cu HR0.out); (case side2 => exact HC0.out); rintro e w6 ⟨rfl, hb⟩; refine ⟨_, rfl, ?_⟩; have n0_ := am (below_step (bu HB.out) hb); clear HB; have HB := n0_; clear n0_; (try clear hb); (try clear hb2); (try clear hk); (try clear hi)) | ((with_reducible refine gate_dst (N := 12) rfl ?_); refine Kd.R_make k30 _ 30 rfl (N := 12) rfl 42 _ _ rfl (l0.length : Int) rfl rfl Tryd.underlying42 (.agg #[(.int .i64 0), (.bool false)]) 16 info30 rfl (by decide) (by omega) z30 (ok := fun _ => True) (okp := fun _ => True) (k30_mkM _ _ _ z30 ) (fun _ hk => hk) trivial (od) (Nat.le_trans (Nat.mul_le_mul_right _ (od : (l0.length : Int).toNat ≤ 17592186044416)) (by omega)) (Below.refl _ _) (Nat.le_refl _) ?_; intro v184 w7 ho8 hb hg_ hnew_; clear hg_ hnew_; (first | rw [← Ny183.out] at ho8 | (simp only [Int.reduceToNat] at ho8; rw [← Ny183.out] at ho8)); have n0_ := am (Kd.R_lower ho8 (below_size (bu HB.out))); have n1_ := am (below_step (bu HB.out) hb); clear HB; have HO185 := n0_; have HB := n1_; clear n0_ n1_; clear hb ho8))
    go_loopg [15] k (fun kq v15 w' => ∃ (x4_1 : List (S30)) (x15_1 : Int), v15 = .int .i64 x15_1 ∧ Aside0 (impl_MelodyBack.l0 kq l0 x4_1 l0 (l0.length : Int) x15_1 = some (r1, r2)) ∧ Aside0 (kq ≤ k) ∧ Aside0 (Kd.R k30 30 w' w.heap.size (fun _ => True) v184 x4_1) ∧ Aside0 (Below w.heap.size w w'))
    case atStart => exact ⟨(y183), (0), (by first | rfl | (simp; done) | (simp [*]; done)), H', ⟨Nat.le_refl _⟩, ⟨ru HO185.out⟩, ⟨bu HB.out⟩⟩
    case round =>
     clear H'
     try clear p2
     try clear c3
     try clear c4
     try clear c4b0
     try clear c4b1
     try clear c5
     try clear c5b0
     try clear c5b1
     obtain ⟨x4_1, x15_1, rfl, HA, HK1, HO_4, HB⟩ := hrel
     cases gk with
     | zero => exact absurd HA.out (by simp [impl_MelodyBack.l0])
     | succ k1 =>
      have H := HA.out
      clear HA
      simp only [impl_MelodyBack.l0] at H
      by_cases c9 : x15_1 < (l0.length : Int)
      ·rw [if_pos c9] at H
       have c9b0 : decide (x15_1 < (l0.length : Int)) = true := decide_eq_true c9
       clear c9
       by_cases c10 : 0 ≤ x15_1
       ·rw [if_pos c10] at H
        have c10b0 : decide (0 ≤ x15_1) = true := decide_eq_true c10
        clear c10
        by_cases c11 : x15_1 < (l0.length : Int)
        ·rw [if_pos c11] at H
         have c11b0 : decide (x15_1 < (l0.length : Int)) = true := decide_eq_true c11
         clear c11
         obtain ⟨ji12, hji12⟩ : ∃ j_ : Int, (wrap64 ((wrap64 ((l0.length : Int) - 1)) - x15_1)) = j_ := ⟨_, rfl⟩
         replace H : (if 0 ≤ (ji12) then (if (ji12) < (x4_1.length : Int) then (impl_MelodyBack.l0 k1 l0 (x4_1.set ((ji12) : Int).toNat (⟨(rd_T30 l0 x15_1).f0, (rd_T30 l0 x15_1).f1⟩ : S30)) l0 (l0.length : Int) (wrap64 (x15_1 + 1))) else (none)) else (none)) = some (r1, r2) := by first | (rw [hji12] at H; exact H) | (simp only [hji12] at H ⊢; exact H)
         have hji12w : (IntKind.i64.wrap ((wrap64 ((l0.length : Int) - 1)) - x15_1)) = ji12 := (i64_w _).trans hji12
         by_cases c13 : 0 ≤ (ji12)
         ·rw [if_pos c13] at H
          have c13b0 : decide (0 ≤ (ji12)) = true := decide_eq_true c13
          clear c13
          by_cases c14 : (ji12) < (x4_1.length : Int)
          ·rw [if_pos c14] at H
           have c14b0 : decide ((ji12) < (x4_1.length : Int)) = true := decide_eq_true c14
           clear c14
           obtain ⟨y188, hy188⟩ : ∃ y_ : List (S30), y_ = (x4_1.set ((ji12) : Int).toNat (⟨(rd_T30 l0 x15_1).f0, (rd_T30 l0 x15_1).f1⟩ : S30)) := ⟨_, rfl⟩
           replace H : (impl_MelodyBack.l0 k1 l0 y188 l0 (l0.length : Int) (wrap64 (x15_1 + 1))) = some (r1, r2) := by first | (rw [hy188]; with_reducible exact H) | (have H2_ := (Option.bind_some _ _).symm.trans H; rw [hy188]; with_reducible exact H2_) | (have H2_ := (Option.bind_some _ _).symm.trans H; with_reducible exact H2_) | with_reducible exact H | (rw [hy188]; exact H) | exact H
           have Ny188 := am hy188
           clear hy188
           have H' := am H
           clear H
           have p186 : 0 ≤ (x15_1 : Int) := od
           have q186 : x15_1 < (l0.length : Int) := od
           obtain ⟨ad186, e186, hx186_0, hx186_1⟩ := at_T30 HR0.out x15_1 p186 q186
           cases e186
           replace hx186_0 := (HB.out.cell (World.block_lt_of_cell? w _ hx186_0)).trans hx186_0
           replace hx186_1 := (HB.out.cell (World.block_lt_of_cell? w _ hx186_1)).trans hx186_1
           replace p186 := eq_true p186
           replace q186 := eq_true q186
           go_wp2_with (first | ((with_reducible refine gate_dst (N := 6) rfl ?_); refine box_event ?hg (N := 6) ?hd (cs := #[.int .i64 0, .bool false]) (t := 30) ?hr ?_; (case hd => rfl); (case hg => rfl); (case hr => first | (go_simp; done) | (go_simp; rfl)); intro gb187 hg w16 hbox hb; have n0_ := am (Kd.R_below (Kd.R_elderB (ru HO_4.out) gb187 (Nat.le_of_eq hg.symm)) hb); have n1_ := am (below_step (bu HB.out) hb); have n2_ := am (hbox); have n3_ := am ((by rw [hg]; exact (below_size (bu HB.out)) : w.heap.size ≤ gb187)); have n4_ := am ((by rw [hg]; exact (below_size (bu HB.out)) : w.heap.size ≤ gb187)); clear HO_4; clear HB; have HO_4 := n0_; have HB := n1_; have BK187 := n2_; have GW187 := n3_; have GE187 := n4_; clear n0_ n1_ n2_ n3_ n4_; clear hb hbox hg; have hcz17_0 : w16.cell? ⟨gb187, 0, none⟩ = some (.int .i64 0) := (blk_cell BK187.out 0).trans rfl; have hcz17_1 : w16.cell? ⟨gb187, 1, none⟩ = some (.bool false) := (blk_cell BK187.out 1).trans rfl; have hfz17_0 := blk_frozen BK187.out 0; have hfz17_1 := blk_frozen BK187.out 1) | ((with_reducible refine gate_store (t := 30) (p := 6) rfl ?_); refine store_event (t := 30) (p := 6) (v := ?vo_w18) (w1 := ((w16.setCell ⟨gb187, 0, none⟩ (.int .i64 ((rd_T30 l0 x15_1).f0))).setCell ⟨gb187, 1, none⟩ (.bool ((rd_T30 l0 x15_1).f1)))) ?hg ?ho ?hn ?hr ?_; (case ho => rfl); (case hg => rfl); (case hn => rfl); (case hr => first | (go_simp; done) | (go_simp; rfl)); intro w18 hw; have n0_ : Aside0 (Kd.R k30 30 w18 w.heap.size (fun k_ => k_ ≠ gb187) v184 x4_1) := ⟨(by rw [hw]; exact (by (with_reducible repeat (first | apply Kd.R_alloc | apply Kd.R_drewN | apply Kd.R_drew)); exact Kd.R_mono (Kd.R_far (p := ⟨gb187, 1, none⟩) (Kd.R_far (p := ⟨gb187, 0, none⟩) (Kd.R_mono HO_4.out (fun k_ hk => (⟨hk, hk.2⟩ : _ ∧ k_ ≠ gb187))) (fun _ hk => hk.2) (.int .i64 ((rd_T30 l0 x15_1).f0))) (fun _ hk => hk.2) (.bool ((rd_T30 l0 x15_1).f1))) (fun _ hk => hk.1.2)))⟩; have n1_ : Aside0 (w18.heap[gb187]? = some (.cells #[.int .i64 ((rd_T30 l0 x15_1).f0), .bool ((rd_T30 l0 x15_1).f1)] 30 (0, 0))) := ⟨(by rw [hw]; exact (by (with_reducible repeat (first | refine blk_drewN ?_ _ | refine blk_drew ?_ | refine blk_alloc ?_ _)); refine blk_put (cs := #[.int .i64 ((rd_T30 l0 x15_1).f0), .bool false]) ?_ 1 _ rfl; (with_reducible repeat (first | refine blk_drewN ?_ _ | refine blk_drew ?_ | refine blk_alloc ?_ _)); refine blk_put (cs := #[.int .i64 0, .bool false]) ?_ 0 _ rfl; (with_reducible repeat (first | refine blk_drewN ?_ _ | refine blk_drew ?_ | refine blk_alloc ?_ _)); exact BK187.out))⟩; have n2_ : Aside0 (Below w.heap.size w w18) := ⟨(by rw [hw]; exact (bu HB.out))⟩; clear hw; clear HO_4; clear BK187; clear HB; have HO_4 := n0_; have BK187 := n1_; have HB := n2_; clear n0_ n1_ n2_; have hcz19_0 : w18.cell? ⟨gb187, 0, none⟩ = some (.int .i64 ((rd_T30 l0 x15_1).f0)) := (blk_cell BK187.out 0).trans rfl; have hcz19_1 : w18.cell? ⟨gb187, 1, none⟩ = some (.bool ((rd_T30 l0 x15_1).f1)) := (blk_cell BK187.out 1).trans rfl; have hfz19_0 := blk_frozen BK187.out 0; have hfz19_1 := blk_frozen BK187.out 1; have p15 : 0 ≤ ((ji12) : Int) := od; have q15 : ((ji12) : Int) < ((x4_1.length : Int) : Int) := od; obtain ⟨go15, co15, eo15, gb15, gl15, cl15, HG15⟩ := Kd.R_form HO_4.out (by omega); (first | cases eo15 | (injection eo15 with ea_ en_ ec_; (first | subst ea_ | (injection ea_ with ea_; subst ea_)); subst ec_; clear en_)); have GB15 := am gb15; have GG15 := am HG15; clear gb15 gl15 HG15; obtain ⟨ce15, hcl15, hM15, hcc15, hfr15⟩ := Kd.R_elem HO_4.out z30 ((ji12) : Int) p15 q15; obtain rfl := k30_openM hM15; have hx15_0 : w18.cell? ⟨go15, ((ji12) : Int).toNat * 2, none⟩ = some (.int .i64 ((rd_T30 x4_1 (ji12)).f0)) := hcc15 0 _ rfl; have hx15_1 : w18.cell? ⟨go15, ((ji12) : Int).toNat * 2 + 1, none⟩ = some (.bool ((rd_T30 x4_1 (ji12)).f1)) := hcc15 1 _ rfl; have hf15_0 : w18.frozen? ⟨go15, ((ji12) : Int).toNat * 2, none⟩ = false := hfr15 0; have hf15_1 : w18.frozen? ⟨go15, ((ji12) : Int).toNat * 2 + 1, none⟩ = false := hfr15 1; (try clear hM15); clear hcl15 hcc15 hfr15; replace p15 := eq_true p15; replace q15 := eq_true q15; have HX20 := am (show Kd.R k30 30 w18 w.heap.size (fun k_ => k_ ≠ gb187) (.slice (some ⟨go15, 0, none⟩) x4_1.length co15) x4_1 from (ru HO_4.out)); obtain ⟨ce20, hcl20, hM20, hcc20, hfr20⟩ := Kd.R_elem HX20.out z30 ((ji12) : Int) (od) (by have h_ : ((ji12) : Int) < ((x4_1.length : Int) : Int) := od; first | exact h_ | (have e_ := (Kd.R_reads' HO_4.out).1; omega) | simpa using h_); obtain rfl := k30_openM hM20; have HP20 := Kd.R_seg HX20.out ((ji12) : Int) (od) (by have h_ : ((ji12) : Int) < ((x4_1.length : Int) : Int) := od; first | exact h_ | (have e_ := (Kd.R_reads' HO_4.out).1; omega) | simpa using h_) (seg := [.int .i64 ((rd_T30 l0 x15_1).f0), .bool ((rd_T30 l0 x15_1).f1)]) (j := 0) hcl20 hcc20 (show 2 ≤ 2 from by decide) (x' := (⟨(rd_T30 l0 x15_1).f0, (rd_T30 l0 x15_1).f1⟩ : S30)) (k30_mkM _ _ _ (⟨(rd_T30 l0 x15_1).f0, (rd_T30 l0 x15_1).f1⟩ : S30) ) (fun _ hk => hk); have hx20_0 := hcc20 0 _ rfl; (try simp only [show (k30).sz = 2 from rfl, Nat.mul_one, Nat.add_zero] at hx20_0); have hf20_0 := hfr20 0; (try simp only [show (k30).sz = 2 from rfl, Nat.mul_one, Nat.add_zero] at hf20_0); have hx20_1 := hcc20 1 _ rfl; (try simp only [show (k30).sz = 2 from rfl, Nat.mul_one, Nat.add_zero] at hx20_1); have hf20_1 := hfr20 1; (try simp only [show (k30).sz = 2 from rfl, Nat.mul_one, Nat.add_zero] at hf20_1); (try clear hM20); clear hcl20 hcc20 hfr20) | ((with_reducible refine gate_store (t := 30) (p := 27) rfl ?_); refine store_event (t := 30) (p := 27) (v := ?vo_w21) (w1 := ((w18.setCell ⟨go15, ((ji12) : Int).toNat * 2, none⟩ (.int .i64 ((rd_T30 l0 x15_1).f0))).setCell ⟨go15, ((ji12) : Int).toNat * 2 + 1, none⟩ (.bool ((rd_T30 l0 x15_1).f1)))) ?hg ?ho ?hn ?hr ?_; (case ho => rfl); (case hg => rfl); (case hn => rfl); (case hr => first | (go_simp; done) | (go_simp; rfl)); intro w21 hw; have hg : w18.grownBy w21 (some go15) := (by rw [hw]; exact HP20.2); have hp_ : Kd.R k30 30 w21 w.heap.size (fun k_ => k_ ≠ gb187) (.slice (some ⟨go15, 0, none⟩) x4_1.length co15) y188 := (by rw [hw, Ny188.out]; exact HP20.1); clear HP20; have n0_ := am (hp_); have n1_ := am (blk_grown (g := gb187) (o := .cells #[.int .i64 ((rd_T30 l0 x15_1).f0), .bool ((rd_T30 l0 x15_1).f1)] 30 (0, 0)) (gu BK187.out) hg (Kd.R_away HO_4.out (fun _ hk => hk))); have n2_ := am ((by rw [hw]; exact below_set (below_set (HB.out) GB15.out) GB15.out : Below w.heap.size w w21)); clear HO_4; clear BK187; clear HB; have HO_4 := n0_; have BK187 := n1_; have HB := n2_; clear n0_ n1_ n2_; clear hg hw hp_))
           go_roundg k1
           case measure => have := HK1.out; omega
           case rel => exact ⟨(y188), (wrap64 (x15_1 + 1)), (by first | rfl | (simp; done) | (simp [*]; done)), H', ⟨by have := HK1.out; omega⟩, ⟨by (with_reducible repeat (first | apply Kd.R_alloc | apply Kd.R_drewN | apply Kd.R_drew)); exact Kd.R_mono HO_4.out (fun _ hk => trivial)⟩, ⟨bu HB.out⟩⟩
          ·rw [if_neg c14] at H
           exact absurd H (by simp)
         ·rw [if_neg c13] at H
          exact absurd H (by simp)
        ·rw [if_neg c11] at H
         exact absurd H (by simp)
       ·rw [if_neg c10] at H
        exact absurd H (by simp)
      ·rw [if_neg c9] at H
       have c9b0 : decide (x15_1 < (l0.length : Int)) = false := decide_eq_false c9
       clear c9
       simp only [Option.some.injEq, Prod.mk.injEq] at H
       obtain ⟨rfl, rfl⟩ := H
       go_wp2
       go_ret2
       exact ⟨_, by first | rfl | (simp [errW_none, errW_some] <;> rfl) | (simp [*, errW_none, errW_some] <;> rfl), ru HO_4.out, bu HB.out⟩
   ·rw [if_neg c5] at H
    exact absurd H (by simp)
  ·rw [if_neg c4] at H
   exact absurd H (by simp)
 ·replace c3 := Bool.eq_false_iff.mpr c3
  subst c3
  have H1 : (some (([] : List (S30)), false)) = some (r1, r2) := by rw [if_neg (show ¬ (false = true) by decide)] at H; exact H
  clear H
  have H := H1
  clear H1
  simp only [Option.some.injEq, Prod.mk.injEq] at H
  obtain ⟨rfl, rfl⟩ := H
  go_enter Tryd.func55, Tryd.ntmps55
  go_wp2_with (first | ((with_reducible refine gate_callee (f := 58) rfl ?_); refine goesL_ (some 8) rfl rfl Tryd.func58 (by kernel_rfl) rfl #[.slice A0 l0.length c0] rfl (by (try simp only [List.map_toArray, List.map_cons, List.map_nil]); first | done | rfl | (simp only [List.length_drop, List.length_take]; rfl)) ?_; (with_reducible refine (impl_MelodyValid.calls k _ _ l0 false _ ?side1 ?side2 A2.out).mono ?_); (case side1 => exact cu HR0.out); (case side2 => exact HC0.out); rintro e w22 ⟨rfl, hb⟩; refine ⟨_, rfl, ?_⟩; have n0_ := am (below_step (bu HB.out) hb); clear HB; have HB := n0_; clear n0_; (try clear hb); (try clear hb2); (try clear hk); (try clear hi)))
  go_ret2
  exact ⟨_, by first | rfl | (simp [errW_none, errW_some] <;> rfl) | (simp [*, errW_none, errW_some] <;> rfl), by first | exact Kd.R_nil _ _ _ _ _ | exact Kd.N_nil _ _ _ _ _ | exact Kd.V_nil _ _ _ _ _ | exact Kd.Q_nil _ _ _ _ _ | exact Kd.S_nil _ _ _ _ _, bu HB.out⟩

/-! ### laws_FnMelodyText: function 11 -/
def laws_FnMelodyText.j0 : Nat → List (S30) → ByteArray → ByteArray → Bool → Option (Bool)
 | 0, _, _, _, _ => none
 | k + 1, x3, x4, x5, x25 => if x25 = true then (some (x4.toList == x5.toList)) else ((impl_MelodyFrom.f k x4).bind fun bt194 => ((impl_MelodyBack.f k x3).bind fun bt198 => (if bt194.2 = true then (if bt198.2 = true then ((laws_sameTones.f k bt194.1 x3).bind fun t202 => (if t202 = true then ((laws_names.f k x4).bind fun t203 => (if t203 = (x3.length : Int) then ((impl_MelodyText.f k bt198.1).bind fun t204 => (some ((t204.size : Int) == (x4.size : Int)))) else (some false))) else (some false))) else (some false)) else (some false))))
def laws_FnMelodyText.f (k : Nat) (l0 : List Int) : Option (Bool) := if (l0.length : Int) > 1048576 then (some true) else ((spec_DrawMelodyText.f k l0).bind fun t189 => ((impl_MelodyText.f k t189).bind fun t192 => ((spec_MelodyText.f k t189).bind fun t193 => (if t192.toList = t193.toList then (laws_FnMelodyText.j0 k t189 t192 t193 (t192.toList == ([] : List UInt8))) else (laws_FnMelodyText.j0 k t189 t192 t193 true)))))
set_option maxHeartbeats 8000000 in
set_option maxRecDepth 100000 in
theorem laws_FnMelodyText.calls (k : Nat) (A0 : Option Addr) (c0 : Nat) (l0 : List Int) (r : Bool) (w : World) (hr0 : Kd.C (Kd.int .u8) w A0 l0.length l0) (hc0 : l0.length ≤ c0) (hTL : TabL w) (hTM : TabM w) (h : laws_FnMelodyText.f k l0 = some r) :
  Calls Tryd.prog 11 #[.slice A0 l0.length c0] w fun e w' => e = .returned (.bool r) ∧ Below w.heap.size w w' := by
 have HTL := am hTL
 clear hTL
 have HTM := am hTM
 clear hTM
 have HR0 := am hr0
 have HC0 := am hc0
 clear hr0 hc0
 have HB := am (Below.refl w.heap.size w)
 have H : (if (l0.length : Int) > 1048576 then (some true) else ((spec_DrawMelodyText.f k l0).bind fun t189 => ((impl_MelodyText.f k t189).bind fun t192 => ((spec_MelodyText.f k t189).bind fun t193 => (if t192.toList = t193.toList then (laws_FnMelodyText.j0 k t189 t192 t193 (t192.toList == ([] : List UInt8))) else (laws_FnMelodyText.j0 k t189 t192 t193 true)))))) = some r := h
 clear h
 by_cases c2 : (l0.length : Int) > 1048576
 ·rw [if_pos c2] at H
  have c2b0 : decide (1048576 < (l0.length : Int)) = true := decide_eq_true c2
  have c2b1 : decide (1048576 < l0.length) = true := decide_eq_true (by omega)
  clear c2
  obtain rfl := Option.some.inj H
  go_enter Tryd.func11, Tryd.ntmps11
  go_wp2
  go_ret
  exact ⟨by first | rfl | (simp [errW_none, errW_some] <;> rfl) | (simp [*, errW_none, errW_some] <;> rfl), bu HB.out⟩
 ·rw [if_neg c2] at H
  have c2b0 : decide (1048576 < (l0.length : Int)) = false := decide_eq_false c2
  have c2b1 : decide (1048576 < l0.length) = false := decide_eq_false (by omega)
  clear c2
  replace H := Option.bind_eq_some_iff.mp H
  obtain ⟨t189, A30, H⟩ := H
  replace H : ((impl_MelodyText.f k t189).bind fun t192 => ((spec_MelodyText.f k t189).bind fun t193 => (if t192.toList = t193.toList then (laws_FnMelodyText.j0 k t189 t192 t193 (t192.toList == ([] : List UInt8))) else (laws_FnMelodyText.j0 k t189 t192 t193 true)))) = some r := H
  have A3 := am A30
  clear A30
  replace H := Option.bind_eq_some_iff.mp H
  obtain ⟨t192, A40, H⟩ := H
  replace H : ((spec_MelodyText.f k t189).bind fun t193 => (if t192.toList = t193.toList then (laws_FnMelodyText.j0 k t189 t192 t193 (t192.toList == ([] : List UInt8))) else (laws_FnMelodyText.j0 k t189 t192 t193 true))) = some r := H
  have A4 := am A40
  clear A40
  replace H := Option.bind_eq_some_iff.mp H
  obtain ⟨t193, A50, H⟩ := H
  replace H : (if t192.toList = t193.toList then (laws_FnMelodyText.j0 k t189 t192 t193 (t192.toList == ([] : List UInt8))) else (laws_FnMelodyText.j0 k t189 t192 t193 true)) = some r := H
  have A5 := am A50
  clear A50
  have HC6 := am H
  clear H
  go_enter Tryd.func11, Tryd.ntmps11
  go_upto_region 6 with (first | ((with_reducible refine gate_callee (f := 52) rfl ?_); refine goesL_ (some 14) rfl rfl Tryd.func52 (by kernel_rfl) rfl #[.slice A0 l0.length c0] rfl (by (try simp only [List.map_toArray, List.map_cons, List.map_nil]); first | done | rfl | (simp only [List.length_drop, List.length_take]; rfl)) ?_; (with_reducible refine (spec_DrawMelodyText.calls k _ _ l0 t189 _ ?side1 ?side2 A3.out).mono ?_); (case side1 => exact cu HR0.out); (case side2 => exact HC0.out); rintro e w7 ⟨v190, rfl, ho0, hb⟩; refine ⟨_, rfl, ?_⟩; have n0_ := am (Kd.R_lower ho0 (below_size (bu HB.out))); have n1_ := am (below_step (bu HB.out) hb); clear HB; have HO191 := n0_; have HB := n1_; clear n0_ n1_; (try clear hb); (try clear hb2); (try clear hk); (try clear hi); (try clear ho0); obtain ⟨Ao8, co8, eo8⟩ := Kd.R_slice HO191.out; subst eo8) | ((with_reducible refine gate_callee (f := 51) rfl ?_); refine goesL_ (some 16) rfl rfl Tryd.func51 (by kernel_rfl) rfl #[.slice Ao8 t189.length co8] rfl (by (try simp only [List.map_toArray, List.map_cons, List.map_nil]); first | done | rfl | (simp only [List.length_drop, List.length_take]; rfl)) ?_; (with_reducible refine (impl_MelodyText.calls k _ _ t189 t192 _ ?side1 ?side2 ?side3 A4.out).mono ?_); (case side1 => exact cu (Kd.R_reads' HO191.out).2.2); (case side2 => exact (Kd.R_reads' HO191.out).2.1); (case side3 => first | exact HTL.out | exact TabAt.below HTL.out (bu HB.out)); rintro e w9 ⟨rfl, hb⟩; refine ⟨_, rfl, ?_⟩; have n0_ := am (Kd.R_below (ru HO191.out) hb); have n1_ := am (below_step (bu HB.out) hb); clear HO191; clear HB; have HO191 := n0_; have HB := n1_; clear n0_ n1_; (try clear hb); (try clear hb2); (try clear hk); (try clear hi)) | ((with_reducible refine gate_callee (f := 53) rfl ?_); refine goesL_ (some 18) rfl rfl Tryd.func53 (by kernel_rfl) rfl #[.slice Ao8 t189.length co8] rfl (by (try simp only [List.map_toArray, List.map_cons, List.map_nil]); first | done | rfl | (simp only [List.length_drop, List.length_take]; rfl)) ?_; (with_reducible refine (spec_MelodyText.calls k _ _ t189 t193 _ ?side1 ?side2 A5.out).mono ?_); (case side1 => exact cu (Kd.R_reads' HO191.out).2.2); (case side2 => exact (Kd.R_reads' HO191.out).2.1); rintro e w10 ⟨rfl, hb⟩; refine ⟨_, rfl, ?_⟩; have n0_ := am (Kd.R_below (ru HO191.out) hb); have n1_ := am (below_step (bu HB.out) hb); clear HO191; clear HB; have HO191 := n0_; have HB := n1_; clear n0_ n1_; (try clear hb); (try clear hb2); (try clear hk); (try clear hi)))
  (try simp only [Act.put, sA, sZ, sS])
  go_cut [25] (fun v25 wc => ∃ (kq : Nat) (x25_5 : Bool), v25 = .bool x25_5 ∧ Aside0 (laws_FnMelodyText.j0 kq t189 t192 t193 x25_5 = some r) ∧ Aside0 (kq ≤ k) ∧ Aside0 (Kd.R k30 30 wc w.heap.size (fun _ => True) (.slice Ao8 t189.length co8) t189) ∧ Aside0 (Below w.heap.size w wc))
  case first =>
   have H := HC6.out
   clear HC6
   by_cases c11 : t192.toList = t193.toList
   ·rw [if_pos c11] at H
    have c11b0 : (t192.toList == t193.toList) = true := beq_iff_eq.mpr c11
    have c11b1 : (t192.toList != t193.toList) = false := bne_eq_false_iff_eq.mpr c11
    clear c11
    (first | rw [c11b0] | (simp only [i64_w, i32_w]; rw [c11b0]) | skip)
    have H' := am H
    clear H
    go_wp2
    go_meet
    case rel => exact ⟨_, ((t192.toList == ([] : List UInt8))), (by first | rfl | (simp; done) | (simp [*]; done)), H', ⟨by first | omega | exact Nat.le_refl _⟩, ⟨ru HO191.out⟩, ⟨bu HB.out⟩⟩
   ·rw [if_neg c11] at H
    have c11b0 : (t192.toList == t193.toList) = false := beq_eq_false_iff_ne.mpr c11
    have c11b1 : (t192.toList != t193.toList) = true := bne_iff_ne.mpr c11
    (first | rw [c11b0] | (simp only [i64_w, i32_w]; rw [c11b0]) | skip)
    have H' := am H
    clear H
    go_wp2
    go_meet
    case rel => exact ⟨_, (true), (by first | rfl | (simp; done) | (simp [*]; done)), H', ⟨by first | omega | exact Nat.le_refl _⟩, ⟨ru HO191.out⟩, ⟨bu HB.out⟩⟩
  case rest =>
   clear HC6
   try clear c1
   try clear c2
   try clear c2b0
   try clear c2b1
   try clear p2
   try clear c5
   try clear c11
   try clear c11b0
   try clear c11b1
   obtain ⟨kq, x25_5, rfl, HA, HJ5, HO_3, HB⟩ := hcut
   cases kq with
   | zero => exact absurd HA.out (by simp [laws_FnMelodyText.j0])
   | succ kj5 =>
    have H := HA.out
    clear HA
    simp only [laws_FnMelodyText.j0] at H
    by_cases c12 : x25_5 = true
    ·subst c12
     have H1 : (some (t192.toList == t193.toList)) = some r := by rw [if_pos rfl] at H; exact H
     clear H
     have H := H1
     clear H1
     obtain rfl := Option.some.inj H
     go_wp2
     go_ret
     exact ⟨by first | rfl | (simp [errW_none, errW_some] <;> rfl) | (simp [*, errW_none, errW_some] <;> rfl), bu HB.out⟩
    ·replace c12 := Bool.eq_false_iff.mpr c12
     subst c12
     have H1 : ((impl_MelodyFrom.f kj5 t192).bind fun bt194 => ((impl_MelodyBack.f kj5 t189).bind fun bt198 => (if bt194.2 = true then (if bt198.2 = true then ((laws_sameTones.f kj5 bt194.1 t189).bind fun t202 => (if t202 = true then ((laws_names.f kj5 t192).bind fun t203 => (if t203 = (t189.length : Int) then ((impl_MelodyText.f kj5 bt198.1).bind fun t204 => (some ((t204.size : Int) == (t192.size : Int)))) else (some false))) else (some false))) else (some false)) else (some false)))) = some r := by rw [if_neg (show ¬ (false = true) by decide)] at H; exact H
     clear H
     have H := H1
     clear H1
     replace H := Option.bind_eq_some_iff.mp H
     obtain ⟨⟨t194, t195⟩, A130, H⟩ := H
     replace H : ((impl_MelodyBack.f kj5 t189).bind fun bt198 => (if t195 = true then (if bt198.2 = true then ((laws_sameTones.f kj5 t194 t189).bind fun t202 => (if t202 = true then ((laws_names.f kj5 t192).bind fun t203 => (if t203 = (t189.length : Int) then ((impl_MelodyText.f kj5 bt198.1).bind fun t204 => (some ((t204.size : Int) == (t192.size : Int)))) else (some false))) else (some false))) else (some false)) else (some false))) = some r := H
     have A13 := am A130
     clear A130
     replace H := Option.bind_eq_some_iff.mp H
     obtain ⟨⟨t198, t199⟩, A140, H⟩ := H
     replace H : (if t195 = true then (if t199 = true then ((laws_sameTones.f kj5 t194 t189).bind fun t202 => (if t202 = true then ((laws_names.f kj5 t192).bind fun t203 => (if t203 = (t189.length : Int) then ((impl_MelodyText.f kj5 t198).bind fun t204 => (some ((t204.size : Int) == (t192.size : Int)))) else (some false))) else (some false))) else (some false)) else (some false)) = some r := H
     have A14 := am A140
     clear A140
     by_cases c15 : t195 = true
     ·subst c15
      have H1 : (if t199 = true then ((laws_sameTones.f kj5 t194 t189).bind fun t202 => (if t202 = true then ((laws_names.f kj5 t192).bind fun t203 => (if t203 = (t189.length : Int) then ((impl_MelodyText.f kj5 t198).bind fun t204 => (some ((t204.size : Int) == (t192.size : Int)))) else (some false))) else (some false))) else (some false)) = some r := by rw [if_pos rfl] at H; exact H
      clear H
      have H := H1
      clear H1
      by_cases c16 : t199 = true
      ·subst c16
       have H1 : ((laws_sameTones.f kj5 t194 t189).bind fun t202 => (if t202 = true then ((laws_names.f kj5 t192).bind fun t203 => (if t203 = (t189.length : Int) then ((impl_MelodyText.f kj5 t198).bind fun t204 => (some ((t204.size : Int) == (t192.size : Int)))) else (some false))) else (some false))) = some r := by rw [if_pos rfl] at H; exact H
       clear H
       have H := H1
       clear H1
       replace H := Option.bind_eq_some_iff.mp H
       obtain ⟨t202, A170, H⟩ := H
       replace H : (if t202 = true then ((laws_names.f kj5 t192).bind fun t203 => (if t203 = (t189.length : Int) then ((impl_MelodyText.f kj5 t198).bind fun t204 => (some ((t204.size : Int) == (t192.size : Int)))) else (some false))) else (some false)) = some r := H
       have A17 := am A170
       clear A170
       by_cases c18 : t202 = true
       ·subst c18
        have H1 : ((laws_names.f kj5 t192).bind fun t203 => (if t203 = (t189.length : Int) then ((impl_MelodyText.f kj5 t198).bind fun t204 => (some ((t204.size : Int) == (t192.size : Int)))) else (some false))) = some r := by rw [if_pos rfl] at H; exact H
        clear H
        have H := H1
        clear H1
        replace H := Option.bind_eq_some_iff.mp H
        obtain ⟨t203, A190, H⟩ := H
        replace H : (if t203 = (t189.length : Int) then ((impl_MelodyText.f kj5 t198).bind fun t204 => (some ((t204.size : Int) == (t192.size : Int)))) else (some false)) = some r := H
        have A19 := am A190
        clear A190
        by_cases c20 : t203 = (t189.length : Int)
        ·rw [if_pos c20] at H
         have c20b0 : (t203 == (t189.length : Int)) = true := beq_iff_eq.mpr c20
         have c20b1 : (t203 != (t189.length : Int)) = false := bne_eq_false_iff_eq.mpr c20
         clear c20
         replace H := Option.bind_eq_some_iff.mp H
         obtain ⟨t204, A210, H⟩ := H
         replace H : (some ((t204.size : Int) == (t192.size : Int))) = some r := H
         have A21 := am A210
         clear A210
         obtain rfl := Option.some.inj H
         go_wp2_with (first | ((with_reducible refine gate_callee (f := 54) rfl ?_); refine goesL_ (some 31) rfl rfl Tryd.func54 (by kernel_rfl) rfl #[.string t192] rfl (by (try simp only [List.map_toArray, List.map_cons, List.map_nil]); first | done | rfl | (simp only [List.length_drop, List.length_take]; rfl)) ?_; (with_reducible refine (impl_MelodyFrom.calls kj5 t192 t194 true _ ?side1 ?side2 A13.out).mono ?_); (case side1 => first | exact HTL.out | exact TabAt.below HTL.out (bu HB.out)); (case side2 => first | exact HTM.out | exact TabAt.below HTM.out (bu HB.out) | exact TabM.below HTM.out (bu HB.out) | (repeat (first | exact HTM.out | (with_reducible refine TabAt.drewN ?_ _) | (with_reducible refine TabAt.drew ?_) | (with_reducible refine TabAt.alloc ?_ _)))); rintro e w22 ⟨v196, rfl, ho0, hb⟩; refine ⟨_, rfl, ?_⟩; have n0_ := am (Kd.R_elder' (ru HO_3.out) (Kd.R_base ho0) hb); have n1_ := am (Kd.R_lower (Kd.R_new' ho0 (Kd.R_lt (ru HO_3.out))) (below_size (bu HB.out))); have n2_ := am (below_step (bu HB.out) hb); clear HO_3; clear HB; have HO_3 := n0_; have HO197 := n1_; have HB := n2_; clear n0_ n1_ n2_; (try clear hb); (try clear hb2); (try clear hk); (try clear hi); (try clear ho0)) | ((with_reducible refine gate_callee (f := 55) rfl ?_); refine goesL_ (some 36) rfl rfl Tryd.func55 (by kernel_rfl) rfl #[.slice Ao8 t189.length co8] rfl (by (try simp only [List.map_toArray, List.map_cons, List.map_nil]); first | done | rfl | (simp only [List.length_drop, List.length_take]; rfl)) ?_; (with_reducible refine (impl_MelodyBack.calls kj5 _ _ t189 t198 true _ ?side1 ?side2 A14.out).mono ?_); (case side1 => exact cu (Kd.R_reads' HO_3.out).2.2); (case side2 => exact (Kd.R_reads' HO_3.out).2.1); rintro e w23 ⟨v200, rfl, ho0, hb⟩; refine ⟨_, rfl, ?_⟩; have n0_ := am (Kd.R_elder' (ru HO_3.out) (Kd.R_base ho0) hb); have n1_ := am (Kd.R_elder' (ru HO197.out) (Kd.R_base ho0) hb); have n2_ := am (Kd.R_lower (Kd.R_new' (Kd.R_new' ho0 (Kd.R_lt (ru HO_3.out))) (Kd.R_lt (ru HO197.out))) (below_size (bu HB.out))); have n3_ := am (below_step (bu HB.out) hb); clear HO_3; clear HO197; clear HB; have HO_3 := n0_; have HO197 := n1_; have HO201 := n2_; have HB := n3_; clear n0_ n1_ n2_ n3_; (try clear hb); (try clear hb2); (try clear hk); (try clear hi); (try clear ho0); obtain ⟨Ao24, co24, eo24⟩ := Kd.R_slice HO197.out; subst eo24) | (go_at_call 30; (with_reducible refine (laws_sameTones.calls kj5 _ _ t194 _ _ t189 true _ ?side1 ?side2 ?side3 ?side4 A17.out).mono ?_); (case side1 => exact cu (Kd.R_reads' HO197.out).2.2); (case side2 => exact (Kd.R_reads' HO197.out).2.1); (case side3 => exact cu (Kd.R_reads' HO_3.out).2.2); (case side4 => exact (Kd.R_reads' HO_3.out).2.1); rintro e w' ⟨rfl, ⟨nd, rfl⟩⟩) | (go_at_call 46; (with_reducible refine (laws_names.calls kj5 t192 t203 _ A19.out).mono ?_); rintro e w' ⟨rfl, ⟨nd, rfl⟩⟩; obtain ⟨Ao25, co25, eo25⟩ := Kd.R_slice HO201.out; subst eo25) | (go_at_call 51; (with_reducible refine (impl_MelodyText.calls kj5 _ _ t198 t204 _ ?side1 ?side2 ?side3 A21.out).mono ?_); (case side1 => exact cu (Kd.R_reads' HO201.out).2.2); (case side2 => exact (Kd.R_reads' HO201.out).2.1); (case side3 => first | exact HTL.out | exact TabAt.below HTL.out (bu HB.out)); rintro e w26 ⟨rfl, hb⟩; have n0_ := am (Kd.R_below (ru HO_3.out) hb); have n1_ := am (Kd.R_below (ru HO197.out) hb); have n2_ := am (Kd.R_below (ru HO201.out) hb); have n3_ := am (below_step (bu HB.out) hb); clear HO_3; clear HO197; clear HO201; clear HB; have HO_3 := n0_; have HO197 := n1_; have HO201 := n2_; have HB := n3_; clear n0_ n1_ n2_ n3_; (try clear hb); (try clear hb2); (try clear hk); (try clear hi)))
         go_ret
         exact ⟨by first | rfl | (simp [errW_none, errW_some] <;> rfl) | (simp [*, errW_none, errW_some] <;> rfl), bu HB.out⟩
        ·rw [if_neg c20] at H
         have c20b0 : (t203 == (t189.length : Int)) = false := beq_eq_false_iff_ne.mpr c20
         have c20b1 : (t203 != (t189.length : Int)) = true := bne_iff_ne.mpr c20
         obtain rfl := Option.some.inj H
         go_wp2_with (first | ((with_reducible refine gate_callee (f := 54) rfl ?_); refine goesL_ (some 31) rfl rfl Tryd.func54 (by kernel_rfl) rfl #[.string t192] rfl (by (try simp only [List.map_toArray, List.map_cons, List.map_nil]); first | done | rfl | (simp only [List.length_drop, List.length_take]; rfl)) ?_; (with_reducible refine (impl_MelodyFrom.calls kj5 t192 t194 true _ ?side1 ?side2 A13.out).mono ?_); (case side1 => first | exact HTL.out | exact TabAt.below HTL.out (bu HB.out)); (case side2 => first | exact HTM.out | exact TabAt.below HTM.out (bu HB.out) | exact TabM.below HTM.out (bu HB.out) | (repeat (first | exact HTM.out | (with_reducible refine TabAt.drewN ?_ _) | (with_reducible refine TabAt.drew ?_) | (with_reducible refine TabAt.alloc ?_ _)))); rintro e w27 ⟨v196, rfl, ho0, hb⟩; refine ⟨_, rfl, ?_⟩; have n0_ := am (Kd.R_elder' (ru HO_3.out) (Kd.R_base ho0) hb); have n1_ := am (Kd.R_lower (Kd.R_new' ho0 (Kd.R_lt (ru HO_3.out))) (below_size (bu HB.out))); have n2_ := am (below_step (bu HB.out) hb); clear HO_3; clear HB; have HO_3 := n0_; have HO197 := n1_; have HB := n2_; clear n0_ n1_ n2_; (try clear hb); (try clear hb2); (try clear hk); (try clear hi); (try clear ho0)) | ((with_reducible refine gate_callee (f := 55) rfl ?_); refine goesL_ (some 36) rfl rfl Tryd.func55 (by kernel_rfl) rfl #[.slice Ao8 t189.length co8] rfl (by (try simp only [List.map_toArray, List.map_cons, List.map_nil]); first | done | rfl | (simp only [List.length_drop, List.length_take]; rfl)) ?_; (with_reducible refine (impl_MelodyBack.calls kj5 _ _ t189 t198 true _ ?side1 ?side2 A14.out).mono ?_); (case side1 => exact cu (Kd.R_reads' HO_3.out).2.2); (case side2 => exact (Kd.R_reads' HO_3.out).2.1); rintro e w28 ⟨v200, rfl, ho0, hb⟩; refine ⟨_, rfl, ?_⟩; have n0_ := am (Kd.R_elder' (ru HO_3.out) (Kd.R_base ho0) hb); have n1_ := am (Kd.R_elder' (ru HO197.out) (Kd.R_base ho0) hb); have n2_ := am (Kd.R_lower (Kd.R_new' (Kd.R_new' ho0 (Kd.R_lt (ru HO_3.out))) (Kd.R_lt (ru HO197.out))) (below_size (bu HB.out))); have n3_ := am (below_step (bu HB.out) hb); clear HO_3; clear HO197; clear HB; have HO_3 := n0_; have HO197 := n1_; have HO201 := n2_; have HB := n3_; clear n0_ n1_ n2_ n3_; (try clear hb); (try clear hb2); (try clear hk); (try clear hi); (try clear ho0); obtain ⟨Ao29, co29, eo29⟩ := Kd.R_slice HO197.out; subst eo29) | (go_at_call 30; (with_reducible refine (laws_sameTones.calls kj5 _ _ t194 _ _ t189 true _ ?side1 ?side2 ?side3 ?side4 A17.out).mono ?_); (case side1 => exact cu (Kd.R_reads' HO197.out).2.2); (case side2 => exact (Kd.R_reads' HO197.out).2.1); (case side3 => exact cu (Kd.R_reads' HO_3.out).2.2); (case side4 => exact (Kd.R_reads' HO_3.out).2.1); rintro e w' ⟨rfl, ⟨nd, rfl⟩⟩) | (go_at_call 46; (with_reducible refine (laws_names.calls kj5 t192 t203 _ A19.out).mono ?_); rintro e w' ⟨rfl, ⟨nd, rfl⟩⟩))
         go_ret
         exact ⟨by first | rfl | (simp [errW_none, errW_some] <;> rfl) | (simp [*, errW_none, errW_some] <;> rfl), bu HB.out⟩
       ·replace c18 := Bool.eq_false_iff.mpr c18
        subst c18
        have H1 : (some false) = some r := by rw [if_neg (show ¬ (false = true) by decide)] at H; exact H
        clear H
        have H := H1
        clear H1
        obtain rfl := Option.some.inj H
        go_wp2_with (first | ((with_reducible refine gate_callee (f := 54) rfl ?_); refine goesL_ (some 31) rfl rfl Tryd.func54 (by kernel_rfl) rfl #[.string t192] rfl (by (try simp only [List.map_toArray, List.map_cons, List.map_nil]); first | done | rfl | (simp only [List.length_drop, List.length_take]; rfl)) ?_; (with_reducible refine (impl_MelodyFrom.calls kj5 t192 t194 true _ ?side1 ?side2 A13.out).mono ?_); (case side1 => first | exact HTL.out | exact TabAt.below HTL.out (bu HB.out)); (case side2 => first | exact HTM.out | exact TabAt.below HTM.out (bu HB.out) | exact TabM.below HTM.out (bu HB.out) | (repeat (first | exact HTM.out | (with_reducible refine TabAt.drewN ?_ _) | (with_reducible refine TabAt.drew ?_) | (with_reducible refine TabAt.alloc ?_ _)))); rintro e w30 ⟨v196, rfl, ho0, hb⟩; refine ⟨_, rfl, ?_⟩; have n0_ := am (Kd.R_elder' (ru HO_3.out) (Kd.R_base ho0) hb); have n1_ := am (Kd.R_lower (Kd.R_new' ho0 (Kd.R_lt (ru HO_3.out))) (below_size (bu HB.out))); have n2_ := am (below_step (bu HB.out) hb); clear HO_3; clear HB; have HO_3 := n0_; have HO197 := n1_; have HB := n2_; clear n0_ n1_ n2_; (try clear hb); (try clear hb2); (try clear hk); (try clear hi); (try clear ho0)) | ((with_reducible refine gate_callee (f := 55) rfl ?_); refine goesL_ (some 36) rfl rfl Tryd.func55 (by kernel_rfl) rfl #[.slice Ao8 t189.length co8] rfl (by (try simp only [List.map_toArray, List.map_cons, List.map_nil]); first | done | rfl | (simp only [List.length_drop, List.length_take]; rfl)) ?_; (with_reducible refine (impl_MelodyBack.calls kj5 _ _ t189 t198 true _ ?side1 ?side2 A14.out).mono ?_); (case side1 => exact cu (Kd.R_reads' HO_3.out).2.2); (case side2 => exact (Kd.R_reads' HO_3.out).2.1); rintro e w31 ⟨v200, rfl, ho0, hb⟩; refine ⟨_, rfl, ?_⟩; have n0_ := am (Kd.R_elder' (ru HO_3.out) (Kd.R_base ho0) hb); have n1_ := am (Kd.R_elder' (ru HO197.out) (Kd.R_base ho0) hb); have n2_ := am (Kd.R_lower (Kd.R_new' (Kd.R_new' ho0 (Kd.R_lt (ru HO_3.out))) (Kd.R_lt (ru HO197.out))) (below_size (bu HB.out))); have n3_ := am (below_step (bu HB.out) hb); clear HO_3; clear HO197; clear HB; have HO_3 := n0_; have HO197 := n1_; have HO201 := n2_; have HB := n3_; clear n0_ n1_ n2_ n3_; (try clear hb); (try clear hb2); (try clear hk); (try clear hi); (try clear ho0); obtain ⟨Ao32, co32, eo32⟩ := Kd.R_slice HO197.out; subst eo32) | (go_at_call 30; (with_reducible refine (laws_sameTones.calls kj5 _ _ t194 _ _ t189 false _ ?side1 ?side2 ?side3 ?side4 A17.out).mono ?_); (case side1 => exact cu (Kd.R_reads' HO197.out).2.2); (case side2 => exact (Kd.R_reads' HO197.out).2.1); (case side3 => exact cu (Kd.R_reads' HO_3.out).2.2); (case side4 => exact (Kd.R_reads' HO_3.out).2.1); rintro e w' ⟨rfl, ⟨nd, rfl⟩⟩))
        go_ret
        exact ⟨by first | rfl | (simp [errW_none, errW_some] <;> rfl) | (simp [*, errW_none, errW_some] <;> rfl), bu HB.out⟩
      ·replace c16 := Bool.eq_false_iff.mpr c16
       subst c16
       have H1 : (some false) = some r := by rw [if_neg (show ¬ (false = true) by decide)] at H; exact H
       clear H
       have H := H1
       clear H1
       obtain rfl := Option.some.inj H
       go_wp2_with (first | ((with_reducible refine gate_callee (f := 54) rfl ?_); refine goesL_ (some 31) rfl rfl Tryd.func54 (by kernel_rfl) rfl #[.string t192] rfl (by (try simp only [List.map_toArray, List.map_cons, List.map_nil]); first | done | rfl | (simp only [List.length_drop, List.length_take]; rfl)) ?_; (with_reducible refine (impl_MelodyFrom.calls kj5 t192 t194 true _ ?side1 ?side2 A13.out).mono ?_); (case side1 => first | exact HTL.out | exact TabAt.below HTL.out (bu HB.out)); (case side2 => first | exact HTM.out | exact TabAt.below HTM.out (bu HB.out) | exact TabM.below HTM.out (bu HB.out) | (repeat (first | exact HTM.out | (with_reducible refine TabAt.drewN ?_ _) | (with_reducible refine TabAt.drew ?_) | (with_reducible refine TabAt.alloc ?_ _)))); rintro e w33 ⟨v196, rfl, ho0, hb⟩; refine ⟨_, rfl, ?_⟩; have n0_ := am (Kd.R_elder' (ru HO_3.out) (Kd.R_base ho0) hb); have n1_ := am (Kd.R_lower (Kd.R_new' ho0 (Kd.R_lt (ru HO_3.out))) (below_size (bu HB.out))); have n2_ := am (below_step (bu HB.out) hb); clear HO_3; clear HB; have HO_3 := n0_; have HO197 := n1_; have HB := n2_; clear n0_ n1_ n2_; (try clear hb); (try clear hb2); (try clear hk); (try clear hi); (try clear ho0)) | ((with_reducible refine gate_callee (f := 55) rfl ?_); refine goesL_ (some 36) rfl rfl Tryd.func55 (by kernel_rfl) rfl #[.slice Ao8 t189.length co8] rfl (by (try simp only [List.map_toArray, List.map_cons, List.map_nil]); first | done | rfl | (simp only [List.length_drop, List.length_take]; rfl)) ?_; (with_reducible refine (impl_MelodyBack.calls kj5 _ _ t189 t198 false _ ?side1 ?side2 A14.out).mono ?_); (case side1 => exact cu (Kd.R_reads' HO_3.out).2.2); (case side2 => exact (Kd.R_reads' HO_3.out).2.1); rintro e w34 ⟨v200, rfl, ho0, hb⟩; refine ⟨_, rfl, ?_⟩; have n0_ := am (Kd.R_elder' (ru HO_3.out) (Kd.R_base ho0) hb); have n1_ := am (Kd.R_elder' (ru HO197.out) (Kd.R_base ho0) hb); have n2_ := am (Kd.R_lower (Kd.R_new' (Kd.R_new' ho0 (Kd.R_lt (ru HO_3.out))) (Kd.R_lt (ru HO197.out))) (below_size (bu HB.out))); have n3_ := am (below_step (bu HB.out) hb); clear HO_3; clear HO197; clear HB; have HO_3 := n0_; have HO197 := n1_; have HO201 := n2_; have HB := n3_; clear n0_ n1_ n2_ n3_; (try clear hb); (try clear hb2); (try clear hk); (try clear hi); (try clear ho0)))
       go_ret
       exact ⟨by first | rfl | (simp [errW_none, errW_some] <;> rfl) | (simp [*, errW_none, errW_some] <;> rfl), bu HB.out⟩
     ·replace c15 := Bool.eq_false_iff.mpr c15
      subst c15
      have H1 : (some false) = some r := by rw [if_neg (show ¬ (false = true) by decide)] at H; exact H
      clear H
      have H := H1
      clear H1
      obtain rfl := Option.some.inj H
      go_wp2_with (first | ((with_reducible refine gate_callee (f := 54) rfl ?_); refine goesL_ (some 31) rfl rfl Tryd.func54 (by kernel_rfl) rfl #[.string t192] rfl (by (try simp only [List.map_toArray, List.map_cons, List.map_nil]); first | done | rfl | (simp only [List.length_drop, List.length_take]; rfl)) ?_; (with_reducible refine (impl_MelodyFrom.calls kj5 t192 t194 false _ ?side1 ?side2 A13.out).mono ?_); (case side1 => first | exact HTL.out | exact TabAt.below HTL.out (bu HB.out)); (case side2 => first | exact HTM.out | exact TabAt.below HTM.out (bu HB.out) | exact TabM.below HTM.out (bu HB.out) | (repeat (first | exact HTM.out | (with_reducible refine TabAt.drewN ?_ _) | (with_reducible refine TabAt.drew ?_) | (with_reducible refine TabAt.alloc ?_ _)))); rintro e w35 ⟨v196, rfl, ho0, hb⟩; refine ⟨_, rfl, ?_⟩; have n0_ := am (Kd.R_elder' (ru HO_3.out) (Kd.R_base ho0) hb); have n1_ := am (Kd.R_lower (Kd.R_new' ho0 (Kd.R_lt (ru HO_3.out))) (below_size (bu HB.out))); have n2_ := am (below_step (bu HB.out) hb); clear HO_3; clear HB; have HO_3 := n0_; have HO197 := n1_; have HB := n2_; clear n0_ n1_ n2_; (try clear hb); (try clear hb2); (try clear hk); (try clear hi); (try clear ho0)) | ((with_reducible refine gate_callee (f := 55) rfl ?_); refine goesL_ (some 36) rfl rfl Tryd.func55 (by kernel_rfl) rfl #[.slice Ao8 t189.length co8] rfl (by (try simp only [List.map_toArray, List.map_cons, List.map_nil]); first | done | rfl | (simp only [List.length_drop, List.length_take]; rfl)) ?_; (with_reducible refine (impl_MelodyBack.calls kj5 _ _ t189 t198 t199 _ ?side1 ?side2 A14.out).mono ?_); (case side1 => exact cu (Kd.R_reads' HO_3.out).2.2); (case side2 => exact (Kd.R_reads' HO_3.out).2.1); rintro e w36 ⟨v200, rfl, ho0, hb⟩; refine ⟨_, rfl, ?_⟩; have n0_ := am (Kd.R_elder' (ru HO_3.out) (Kd.R_base ho0) hb); have n1_ := am (Kd.R_elder' (ru HO197.out) (Kd.R_base ho0) hb); have n2_ := am (Kd.R_lower (Kd.R_new' (Kd.R_new' ho0 (Kd.R_lt (ru HO_3.out))) (Kd.R_lt (ru HO197.out))) (below_size (bu HB.out))); have n3_ := am (below_step (bu HB.out) hb); clear HO_3; clear HO197; clear HB; have HO_3 := n0_; have HO197 := n1_; have HO201 := n2_; have HB := n3_; clear n0_ n1_ n2_ n3_; (try clear hb); (try clear hb2); (try clear hk); (try clear hi); (try clear ho0)))
      go_ret
      exact ⟨by first | rfl | (simp [errW_none, errW_some] <;> rfl) | (simp [*, errW_none, errW_some] <;> rfl), bu HB.out⟩

end Go.Proofs.YtcndojoghmblaaaDoor.MT
