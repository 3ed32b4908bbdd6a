-- Made by this session's gprint.py out of the translation. Not trusted: Lean checks it.
import Derived.Test.YtcndojoghmblaaaDoorShelf
import Derived.Test.YtcndojoghmblaaaDoorMRx0
import Derived.Test.YtcndojoghmblaaaDoorMRx2
namespace Go.Proofs.YtcndojoghmblaaaDoor.MR
open Go.RowKit Go.Proofs.YtcndojoghmblaaaDoorW.PrintWords Go.Proofs.YtcndojoghmblaaaDoorW.PrintLast Go.Proofs.YtcndojoghmblaaaDoorW.PrintMore
attribute [local go_sem] max2_int min2_int max_two min_two max_three min_three max_four min_four   -- for this text's walks alone
set_option linter.unusedVariables false
set_option linter.unusedSimpArgs false

/-! ### bytealg_IndexRabinKarp_string: function 194 -/
-- NOT PRINTED: function 177 (stringslite_Index)

-- NOT PRINTED: function 164 (strings_Index)

-- NOT PRINTED: function 176 (bytealg_CountString)

-- NOT PRINTED: function 163 (strings_Count)

-- NOT PRINTED: function 146 (strings_genSplit)

/-! ### ToneFrom, by hand -/
def tfOk (s : ByteArray) (m : Nat) (b : Bool) : Bool := (impl_Tone_valid.f (m : Int) b == some true) && (((impl_Tone_text.f (m : Int) b).getD ⟨#[]⟩).toList == s.toList)
def tfGo (s : ByteArray) : Nat → Nat → S30 × Bool
 | 0, _ => (⟨0, false⟩, false)
 | d + 1, m => if tfOk s m false = true then (⟨(m : Int), false⟩, true) else if tfOk s m true = true then (⟨(m : Int), true⟩, true) else tfGo s d (m + 1)
theorem tf_all : ∀ m, m < 21 → ∀ b : Bool, (impl_Tone_text.f ((m : Nat) : Int) b).isSome = true := by decide +kernel
theorem tf_some {m : Nat} (h : m < 21) (b : Bool) : impl_Tone_text.f (m : Int) b = some ((impl_Tone_text.f (m : Int) b).getD ⟨#[]⟩) := by
 obtain ⟨v, hv⟩ := Option.isSome_iff_exists.1 (tf_all m h b)
 rw [hv]; rfl
theorem tf_valid (m : Nat) (b : Bool) : ∃ v, impl_Tone_valid.f (m : Int) b = some v := by
 unfold impl_Tone_valid.f
 split
 ·split
  ·split
   ·exact ⟨_, rfl⟩
   ·exact ⟨_, rfl⟩
  ·exact ⟨_, rfl⟩
 ·exact ⟨_, rfl⟩
set_option maxHeartbeats 8000000 in
set_option maxRecDepth 100000 in
theorem toneFrom_any (s : ByteArray) (w : World) (hTL : TabL w) :
  Calls Tryd.prog 108 #[.string s] w fun e w' => e = .returned (.tuple #[.agg #[.int .i64 (tfGo s 21 0).1.f0, .bool (tfGo s 21 0).1.f1], .bool (tfGo s 21 0).2]) ∧ Below w.heap.size w w' := by
 have hu2 := Tryd.underlying30
 have hix0 : ∀ w : World, (Instr.index 106 (.agg #[.bool false, .bool true]) (.int .i64 0)).run Tryd.prog w = .ok (.bool false) w := fun w => by kernel_rfl
 have hix1 : ∀ w : World, (Instr.index 106 (.agg #[.bool false, .bool true]) (.int .i64 1)).run Tryd.prog w = .ok (.bool true) w := fun w => by kernel_rfl
 have HTL := am hTL
 have HG0 := am (blk_new w (.cells #[.int .i64 0, .bool false] 30))
 have HB0 := am (below_alloc (Below.refl w.heap.size w) (.cells #[.int .i64 0, .bool false] 30))
 obtain ⟨G, hG⟩ : ∃ G, G = tfGo s 21 0 := ⟨_, rfl⟩
 have HG := am hG
 rw [← hG]
 clear hTL hG
 go_enter Tryd.func108, Tryd.ntmps108
 go_wp2_with fail
 go_loopg [3, 8] 21 (fun kq v3 v8 w' => ∃ i : Nat, v8 = .int .i64 (i : Int) ∧ v3 = .bool false ∧ Aside0 (i ≤ 21 ∧ kq = 21 - i) ∧ Aside0 (G = tfGo s (21 - i) i) ∧ Aside0 (w'.heap[w.heap.size]? = some (.cells #[.int .i64 0, .bool false] 30 (0, 0))) ∧ Aside0 (Below w.heap.size w w'))
 case atStart => exact ⟨0, rfl, rfl, ⟨by omega, by omega⟩, HG, HG0, HB0⟩
 case round =>
  obtain ⟨i, rfl, rfl, HI, HGi, HGb, HB⟩ := hrel
  clear HG HG0 HB0
  by_cases hi : i < 21
  ·have p0 : ((i : Int) < 21) = True := eq_true (by omega)
   go_wp2_with fail
   go_loopg [3, 12] 2 (fun kq v3 v12 w' => ∃ j : Nat, v12 = .int .i64 (j : Int) ∧ v3 = .bool false ∧ Aside0 (j ≤ 2 ∧ kq = 2 - j) ∧ Aside0 (0 < j → tfOk s i false = false) ∧ Aside0 (1 < j → tfOk s i true = false) ∧ Aside0 (w'.heap[w.heap.size]? = some (.cells #[.int .i64 0, .bool false] 30 (0, 0))) ∧ Aside0 (Below w.heap.size w w'))
   case atStart => exact ⟨0, rfl, rfl, ⟨by omega, by omega⟩, ⟨fun h => by omega⟩, ⟨fun h => by omega⟩, HGb, HB⟩
   case round =>
    obtain ⟨j, rfl, rfl, HJ, HF, HF2, HGc, HBi⟩ := hrel
    by_cases hj : j < 2
    ·obtain ⟨soft, hs⟩ : ∃ soft, soft = decide (j = 1) := ⟨_, rfl⟩
     have HS := am hs
     clear hs
     go_upto_region 6 with fail
     go_cut [6] (fun v6 wc => v6 = .bool soft ∧ wc = wr)
     case first =>
      have hj2 : j = 0 ∨ j = 1 := by omega
      rcases hj2 with rfl | rfl
      all_goals
       go_wp2
       go_meet
       exact ⟨by rw [HS.out]; rfl, rfl⟩
     case rest =>
      obtain ⟨rfl, hwc⟩ := hcut
      subst hwc
      obtain ⟨vv, hvv⟩ := tf_valid i soft
      have HV := am hvv
      have HT := am (tf_some hi soft)
      obtain ⟨tx, htx⟩ : ∃ tx, tx = (impl_Tone_text.f (i : Int) soft).getD ⟨#[]⟩ := ⟨_, rfl⟩
      have HOK := am (show tfOk s i soft = ((vv == true) && (tx.toList == s.toList)) by unfold tfOk; rw [hvv, ← htx]; cases vv <;> rfl)
      rw [← htx] at HT
      clear hvv htx
      go_wp2_with fail
      refine (impl_Tone_valid.calls (i : Int) soft vv _ HV.out).mono ?_
      rintro e w5 ⟨rfl, hb⟩
      have HZ5 := am (blk_below (blk_new wc (.cells #[.int .i64 (i : Int), .bool soft] 30)) hb)
      have HB5 := am (below_step (below_alloc HBi.out _) hb)
      have HG5 := am (blk_below (blk_alloc HGc.out _) hb)
      have k0 : w5.cell? ⟨wc.heap.size, 0, none⟩ = some (.int .i64 (i : Int)) := blk_cell HZ5.out 0
      have k1 : w5.cell? ⟨wc.heap.size, 1, none⟩ = some (.bool soft) := blk_cell HZ5.out 1
      clear hb HGc HBi
      cases vv with
      | false =>
       have HNO := am (show tfOk s i soft = false by rw [HOK.out]; rfl)
       go_wp2_with fail
       go_roundg (2 - (j + 1))
       case measure => have := HJ.out; omega
       case rel =>
        refine ⟨j + 1, by simp, rfl, ⟨by omega, rfl⟩, ⟨fun _ => ?_⟩, ⟨fun _ => ?_⟩, HG5, HB5⟩
        ·by_cases hj0 : j = 0
         ·have e := HNO.out
          rw [HS.out, hj0] at e
          exact e
         ·exact HF.out (by omega)
        ·have e := HNO.out
         rw [HS.out, decide_eq_true (show j = 1 by omega)] at e
         exact e
      | true =>
       go_wp2_with fail
       refine (impl_Tone_text.calls (i : Int) soft tx _ (TabAt.below HTL.out HB5.out) HT.out).mono ?_
       rintro e w6 ⟨rfl, hb⟩
       have HZ6 := am (blk_below HZ5.out hb)
       have HB6 := am (below_step HB5.out hb)
       have HG6 := am (blk_below HG5.out hb)
       clear hb HZ5 HB5 HG5 k0 k1
       have k0 : w6.cell? ⟨wc.heap.size, 0, none⟩ = some (.int .i64 (i : Int)) := blk_cell HZ6.out 0
       have k1 : w6.cell? ⟨wc.heap.size, 1, none⟩ = some (.bool soft) := blk_cell HZ6.out 1
       by_cases heq : tx.toList = s.toList
       ·have b0 : (tx.toList == s.toList) = true := by rw [heq]; exact beq_self_eq_true _
        have HYES := am (show tfOk s i soft = true by rw [HOK.out, b0]; rfl)
        have q0 : w6.cell? ⟨w.heap.size, 0, none⟩ = some (.int .i64 0) := blk_cell HG6.out 0
        have q1 : w6.cell? ⟨w.heap.size, 1, none⟩ = some (.bool false) := blk_cell HG6.out 1
        have qf := fun i => blk_frozen HG6.out i
        have HEQ := am heq
        clear heq
        go_wp2_with fail
        have HGS := am (show G = (⟨(i : Int), soft⟩, true) by
         rw [HGi.out, show 21 - i = (21 - (i + 1)) + 1 by omega]
         simp only [tfGo]
         by_cases hj0 : j = 0
         ·have e : soft = false := by rw [HS.out]; exact decide_eq_false (by omega)
          have y := HYES.out
          rw [e] at y ⊢
          rw [if_pos y]
         ·have e : soft = true := by rw [HS.out]; exact decide_eq_true (by omega)
          have y := HYES.out
          rw [e] at y ⊢
          rw [if_neg (by rw [HF.out (by omega)]; decide), if_pos y])
        refine bodyPost_ret (results_ct rfl _ _ w.heap.size 30 #[.int .i64 (i : Int), .bool soft] (0, 0) _ rfl (blk_put (cs' := #[.int .i64 (i : Int), .bool soft]) (blk_put (cs' := #[.int .i64 (i : Int), .bool false]) HG6.out 0 (.int .i64 (i : Int)) rfl) 1 (.bool soft) rfl) Tryd.underlying30 rfl (by kernel_rfl)) rfl ?_
        exact ⟨by rw [HGS.out]; rfl, below_set (below_set HB6.out (Nat.le_refl _)) (Nat.le_refl _)⟩
       ·have b0 : (tx.toList == s.toList) = false := beq_eq_false_iff_ne.2 heq
        have HNO := am (show tfOk s i soft = false by rw [HOK.out, b0]; rfl)
        clear heq
        go_wp2_with fail
        go_roundg (2 - (j + 1))
        case measure => have := HJ.out; omega
        case rel =>
         refine ⟨j + 1, by simp, rfl, ⟨by omega, rfl⟩, ⟨fun _ => ?_⟩, ⟨fun _ => ?_⟩, HG6, HB6⟩
         ·by_cases hj0 : j = 0
          ·have e := HNO.out
           rw [HS.out, hj0] at e
           exact e
          ·exact HF.out (by omega)
         ·have e := HNO.out
          rw [HS.out, decide_eq_true (show j = 1 by omega)] at e
          exact e
    ·have ej : j = 2 := by have := HJ.out; omega
     subst ej
     have HN0 := am (HF.out (by omega))
     have HN1 := am (HF2.out (by omega))
     have HST := am (show G = tfGo s (21 - (i + 1)) (i + 1) by
      rw [HGi.out, show 21 - i = (21 - (i + 1)) + 1 by omega]
      simp only [tfGo]
      rw [HN0.out, HN1.out, if_neg (by decide), if_neg (by decide)])
     clear HF HF2
     go_wp2_with fail
     go_roundg (21 - (i + 1))
     case measure => have := HI.out; omega
     case rel => exact ⟨i + 1, by simp, rfl, ⟨by omega, rfl⟩, HST, HGc, HBi⟩
  ·have ei : i = 21 := by have := HI.out; omega
   subst ei
   have HGE := am (show G = (⟨0, false⟩, false) from HGi.out)
   have q0 : wr.cell? ⟨w.heap.size, 0, none⟩ = some (.int .i64 0) := blk_cell HGb.out 0
   have q1 : wr.cell? ⟨w.heap.size, 1, none⟩ = some (.bool false) := blk_cell HGb.out 1
   have qf := fun i => blk_frozen HGb.out i
   go_wp2_with fail
   refine bodyPost_ret (results_ct rfl _ _ w.heap.size 30 #[.int .i64 0, .bool false] (0, 0) _ rfl (blk_put (cs' := #[.int .i64 0, .bool false]) (blk_put (cs' := #[.int .i64 0, .bool false]) HGb.out 0 (.int .i64 0) rfl) 1 (.bool false) rfl) Tryd.underlying30 rfl (by kernel_rfl)) rfl ?_
   exact ⟨by rw [HGE.out]; rfl, below_set (below_set HB.out (Nat.le_refl _)) (Nat.le_refl _)⟩


/-! ### MelodyFrom, by hand (strings.Split by the shelf's contract) -/
theorem infoMF : (Tryd.prog.info? 30).map (fun i => (i.zero, i.size, i.bytes)) = some (some (.agg #[.int .i64 0, .bool false]), 2, 16) := by kernel_rfl
def splitW (s : ByteArray) : List ByteArray := Lib.splitB ⟨#[32]⟩ 0 (Lib.countB s ⟨#[32]⟩) s
def mfGo : List ByteArray → List S30 → Option (List S30)
 | [], acc => some acc
 | x :: xs, acc => if (tfGo x 21 0).2 = false then none else if acc.length = 24 then none else mfGo xs (acc ++ [(tfGo x 21 0).1])
def mfRes (s : ByteArray) : List S30 × Bool := if s.toList = [] then ([], true) else match mfGo (splitW s) [] with | some l => (l, true) | none => ([], false)
def impl_MelodyFrom.f (n : Nat) (s : ByteArray) : Option (List S30 × Bool) := if s.size < 4294967281 then some (mfRes s) else none
theorem mf_empty {α : Type} (d : Kd α) (e : Nat) {W : World} {g base : Nat} (ok : Nat → Prop) (hok : ok g) (h : W.heap[g]? = some (.cells #[] e (0, 0))) (hb : base ≤ g) : d.R e W base ok (.slice (some ⟨g, 0, none⟩) 0 0) ([] : List α) :=
 ⟨fun k hk => by
  simp [Value.ownBlock] at hk
  subst hk
  exact hok, [], ⟨by simp, .inr ⟨g, 0, #[], rfl, hb, h, Nat.le_refl _, by simp [maxLen], by simp, by simp⟩⟩, Reps.none _ _⟩
theorem splitW_len (s : ByteArray) : (splitW s).length = Lib.countB s ⟨#[32]⟩ + 1 := Lib.splitB_all ⟨#[32]⟩ (by decide) 0 _ s rfl
theorem splitW_le (s : ByteArray) : (splitW s).length ≤ s.size + 1 := by
 rw [splitW_len]
 have := Lib.countB_le ⟨#[32]⟩ (by decide) s.size s (Nat.le_refl _)
 omega
set_option maxHeartbeats 8000000 in
set_option maxRecDepth 100000 in
theorem impl_MelodyFrom.calls (n : Nat) (s : ByteArray) (r1 : List S30) (r2 : Bool) (w : World) (hTL : TabL w) (hTM : TabM w) (h : impl_MelodyFrom.f n s = some (r1, r2)) :
  Calls Tryd.prog 54 #[.string s] w fun e w' => ∃ v0_ : Value, e = .returned (.tuple #[v0_, .bool r2]) ∧ Kd.R k30 30 w' w.heap.size (fun _ => True) v0_ r1 ∧ Below w.heap.size w w' := by
 unfold impl_MelodyFrom.f at h
 by_cases hsz : s.size < 4294967281
 ·rw [if_pos hsz] at h
  replace h := Option.some.inj h
  have hu2 := Tryd.underlying30
  have HTL := am hTL
  have HTM := am hTM
  have HZ0 := am (blk_new w (.cells #[] 30))
  have HB0 := am (below_alloc (Below.refl w.heap.size w) (.cells #[] 30))
  have HSZ := am hsz
  clear hTL hTM hsz
  by_cases h0 : s.toList = []
  ·unfold mfRes at h
   rw [if_pos h0] at h
   obtain ⟨rfl, rfl⟩ : ([] : List S30) = r1 ∧ true = r2 := by simpa using h
   have b0 : (s.toList == ([] : List UInt8)) = true := by rw [h0]; rfl
   have H0 := am h0
   clear h h0
   go_enter Tryd.func54, Tryd.ntmps54
   go_wp2_with fail
   go_ret2
   exact ⟨_, rfl, mf_empty _ _ _ trivial HZ0.out (Nat.le_refl _), HB0.out⟩
  ·unfold mfRes at h
   rw [if_neg h0] at h
   have b0 : (s.toList == ([] : List UInt8)) = false := beq_eq_false_iff_ne.2 h0
   have HR := am h
   have H0 := am h0
   clear h h0
   go_enter Tryd.func54, Tryd.ntmps54
   go_wp2_with fail
   obtain ⟨mm, hmm⟩ := TabM.below HTM.out HB0.out
   refine (Tryd.strings_Split s ⟨#[32]⟩ mm _ HSZ.out hmm (by decide)).mono ?_
   rintro e w1 ⟨rfl, rfl⟩
   obtain ⟨ws, hws⟩ : ∃ ws, ws = splitW s := ⟨_, rfl⟩
   have hln := splitW_len s
   have hle := splitW_le s
   rw [← hws] at HR hln hle
   rw [show Lib.splitB ⟨#[32]⟩ 0 (Lib.countB s ⟨#[32]⟩) s = ws from hws.symm, ← hln]
   obtain ⟨nw, hnw⟩ : ∃ nw, nw = ws.length := ⟨_, rfl⟩
   rw [← hnw] at hle ⊢
   have HNW := am hnw
   have HLE := am (show nw ≤ 4294967281 by have := HSZ.out; omega)
   obtain ⟨gs, hgs⟩ : ∃ gs, gs = (w.alloc (.cells #[] 30)).heap.size := ⟨_, rfl⟩
   have HW1 := am (blk_new (w.alloc (.cells #[] 30)) (.cells (ws.map Value.string).toArray 9))
   have HZ1 := am (blk_alloc HZ0.out (.cells (ws.map Value.string).toArray 9))
   have HB1 := am (below_alloc HB0.out (.cells (ws.map Value.string).toArray 9))
   rw [← hgs] at HW1 ⊢
   generalize (w.alloc (.cells #[] 30)).alloc (.cells (ws.map Value.string).toArray 9) = W1 at HW1 HZ1 HB1 ⊢
   clear hws hln hle hnw hgs hmm HB0 HZ0
   go_wp2_with fail
   go_loopg [2, 3, 4, 16] nw (fun kq v2 v3 v4 v16 w' => ∃ (i : Nat) (acc : List S30), v16 = .int .i64 (i : Int) ∧ v2 = .slice none 0 0 ∧ v3 = .bool false ∧ Aside0 (i ≤ nw ∧ kq = nw - i) ∧ Aside0 (mfGo ws [] = mfGo (ws.drop i) acc) ∧ Aside0 (acc.length ≤ 24) ∧ Aside0 (w'.heap[gs]? = some (.cells (ws.map Value.string).toArray 9 (0, 0))) ∧ Aside0 (Kd.R k30 30 w' w.heap.size (fun _ => True) v4 acc) ∧ Aside0 (Below w.heap.size w w'))
   case atStart => exact ⟨0, [], rfl, rfl, rfl, ⟨by omega, by omega⟩, ⟨rfl⟩, ⟨by simp⟩, HW1, ⟨mf_empty _ _ _ trivial HZ1.out (Nat.le_refl _)⟩, HB1⟩
   case round =>
    obtain ⟨i, acc, rfl, rfl, rfl, HI, HM, HA, HW, HO, HB⟩ := hrel
    clear HW1 HZ1 HB1
    obtain ⟨A4, c4, e4⟩ := Kd.R_slice HO.out
    subst e4
    by_cases hi : i < nw
    ·have hin : i < ws.length := by rw [← HNW.out]; exact hi
     obtain ⟨x, hx⟩ : ∃ x, x = ws[i] := ⟨_, rfl⟩
     have HD := am (show ws.drop i = x :: ws.drop (i + 1) by rw [List.drop_eq_getElem_cons hin, hx])
     have k0 : wr.cell? ⟨gs, i, none⟩ = some (.string x) := by
      rw [cell_of_row wr gs i _ _ (0, 0) HW.out, hx]
      simp [hin]
     have p0 : 0 ≤ (i : Int) := by omega
     have p1 : (i : Int) < (nw : Int) := by omega
     replace p0 := eq_true p0
     replace p1 := eq_true p1
     obtain ⟨P, hP⟩ : ∃ P, P = tfGo x 21 0 := ⟨_, rfl⟩
     have hc := toneFrom_any x wr (TabAt.below HTL.out HB.out)
     rw [← hP] at hc
     obtain ⟨⟨t0, t1⟩, ok⟩ := P
     dsimp only at hc
     have HP := am hP
     have HSTEP := am (show mfGo ws [] = if ok = false then none else if acc.length = 24 then none else mfGo (ws.drop (i + 1)) (acc ++ [⟨t0, t1⟩]) by
      rw [HM.out, HD.out]
      simp only [mfGo]
      rw [← HP.out])
     have HC := am hc
     clear hx hP hc hin HM
     go_wp2_with fail
     refine HC.out.mono ?_
     rintro e w2 ⟨rfl, hb⟩
     have HW2 := am (blk_below HW.out hb)
     have HO2 := am (Kd.R_below HO.out hb)
     have HB2 := am (below_step HB.out hb)
     clear hb HW HO HB k0 HC
     cases ok with
     | false =>
      have e := HR.out
      rw [HSTEP.out, if_pos rfl] at e
      have E1 := am (show r1 = [] from (congrArg Prod.fst e).symm)
      have E2 := am (show r2 = false from (congrArg Prod.snd e).symm)
      clear e
      go_wp2_with fail
      go_ret2
      exact ⟨.slice none 0 0, by rw [E2.out]; rfl, by rw [E1.out]; exact Kd.R_nil _ _ _ _ _, below_alloc HB2.out _⟩
     | true =>
      by_cases h24 : acc.length = 24
      ·have b1 : ((acc.length : Int) == 24) = true := by rw [h24]; rfl
       have e := HR.out
       rw [HSTEP.out, if_neg (by decide), if_pos h24] at e
       have E1 := am (show r1 = [] from (congrArg Prod.fst e).symm)
       have E2 := am (show r2 = false from (congrArg Prod.snd e).symm)
       clear e h24
       go_wp2_with fail
       go_ret2
       exact ⟨.slice none 0 0, by rw [E2.out]; rfl, by rw [E1.out]; exact Kd.R_nil _ _ _ _ _, below_alloc HB2.out _⟩
      ·have b1 : ((acc.length : Int) == 24) = false := beq_eq_false_iff_ne.2 (by omega)
       have HS2 := am (show mfGo ws [] = mfGo (ws.drop (i + 1)) (acc ++ [⟨t0, t1⟩]) by rw [HSTEP.out, if_neg (by decide), if_neg h24])
       have HAL := am (show acc.length + 1 ≤ 24 by have := HA.out; omega)
       clear h24
       go_upto_region 10 with fail
       have HZ7 := am (blk_new w2 (.cells #[.int .i64 t0, .bool t1] 30))
       have HW3 := am (blk_alloc HW2.out (.cells #[.int .i64 t0, .bool t1] 30))
       have HO3 := am (Kd.R_alloc HO2.out (.cells #[.int .i64 t0, .bool t1] 30))
       have HB3 := am (below_alloc HB2.out (.cells #[.int .i64 t0, .bool t1] 30))
       generalize w2.alloc (.cells #[.int .i64 t0, .bool t1] 30) = W3 at HZ7 HW3 HO3 HB3 ⊢
       have k0 := blk_cell HZ7.out 0
       have k1 := blk_cell HZ7.out 1
       simp only [List.getElem?_toArray, List.getElem?_cons_zero, List.getElem?_cons_succ] at k0 k1
       clear HO2 HB2 HW2
       go_wp2_with (first | ((with_reducible refine gate_builtin (b := .append) (xs := #[.tmp 32, .tmp 34]) rfl ?_); at_builtin; refine Kd.R_append k30 (w0 := w) w.heap.size rfl (.tmp 32) (.tmp 34) 42 30 (.agg #[.int .i64 0, .bool false]) 16 rfl Tryd.underlying42 infoMF rfl (by decide) (by omega) (.slice A4 acc.length c4) acc (⟨t0, t1⟩ : S30) [.int .i64 t0, .bool t1] (fun _ => True) (fun _ => False) rfl rfl ?aP (fun _ hk => hk.elim) ?aF ?aO ?aB ?aS ?aL ?_; (case aP => exact k30_mkM _ _ _ (⟨t0, t1⟩ : S30)); (case aF => exact (fun _ _ => trivial)); (case aO => exact HO3.out); (case aB => exact HB3.out); (case aS => exact (below_size HB3.out)); (case aL => have := HAL.out; omega); intro v1 w6 ho hb hg hat; have HW6 := am (blk_grown HW3.out hg (Kd.R_ne HO3.out HW3.out (by decide))); have HO6 := am ho; have HB6 := am hb; clear ho hb hg hat))
       go_roundg (nw - (i + 1))
       case measure => have := HI.out; omega
       case rel => exact ⟨i + 1, acc ++ [⟨t0, t1⟩], (by have h1 := HLE.out; have h2 : wrap64 ((i : Int) + 1) = (i : Int) + 1 := (by unfold wrap64; omega); simp [h2]), rfl, rfl, ⟨by omega, rfl⟩, HS2, ⟨by rw [List.length_append]; exact HAL.out⟩, HW6, HO6, HB6⟩
    ·have ei : i = nw := by have := HI.out; omega
     subst ei
     have e := HR.out
     rw [HM.out, List.drop_eq_nil_of_le (by rw [← HNW.out]; exact Nat.le_refl _)] at e
     have E1 := am (show r1 = acc from (congrArg Prod.fst e).symm)
     have E2 := am (show r2 = true from (congrArg Prod.snd e).symm)
     clear e
     go_wp2_with fail
     go_ret2
     exact ⟨_, by rw [E2.out]; rfl, by rw [E1.out]; exact HO.out, HB.out⟩
 ·rw [if_neg hsz] at h
  exact absurd h (by simp)


/-! ### spec_l1Letter: function 129 -/
def spec_l1Letter.f (a0 : Int) : Option (Int) := some (Int.tmod a0 7)
set_option maxHeartbeats 8000000 in
set_option maxRecDepth 100000 in
theorem spec_l1Letter.calls (a0 : Int) (r : Int) (w : World) (h : spec_l1Letter.f a0 = some r) :
  Calls Tryd.prog 129 #[.int .i64 a0] w fun e w' => e = .returned (.int .i64 r) ∧ Drawn0 w w' := by
 have H : (some (Int.tmod a0 7)) = some r := h
 clear h
 obtain rfl := Option.some.inj H
 go_enter Tryd.func129, Tryd.ntmps129
 go_wp2
 go_ret
 exact ⟨by first | rfl | (simp; done) | (simp [*]; done), by repeat (first | exact Drawn0.refl _ | apply Drawn0.step)⟩

/-! ### spec_l6In: function 131 -/
def spec_l6In.f (a0 : Int) (a1 : Int) (a2 : Int) : Option (Bool) := if a0 ≥ a1 then (some (decide (a0 ≤ a2))) else (some false)
set_option maxHeartbeats 8000000 in
set_option maxRecDepth 100000 in
theorem spec_l6In.calls (a0 : Int) (a1 : Int) (a2 : Int) (r : Bool) (w : World) (h : spec_l6In.f a0 a1 a2 = some r) :
  Calls Tryd.prog 131 #[.int .i64 a0, .int .i64 a1, .int .i64 a2] w fun e w' => e = .returned (.bool r) ∧ Drawn0 w w' := by
 have H : (if a0 ≥ a1 then (some (decide (a0 ≤ a2))) else (some false)) = some r := h
 clear h
 by_cases c4 : a0 ≥ a1
 ·rw [if_pos c4] at H
  have c4b0 : decide (a1 ≤ a0) = true := decide_eq_true c4
  clear c4
  obtain rfl := Option.some.inj H
  go_enter Tryd.func131, Tryd.ntmps131
  go_wp2
  go_ret
  exact ⟨by first | rfl | (simp; done) | (simp [*]; done), by repeat (first | exact Drawn0.refl _ | apply Drawn0.step)⟩
 ·rw [if_neg c4] at H
  have c4b0 : decide (a1 ≤ a0) = false := decide_eq_false c4
  clear c4
  obtain rfl := Option.some.inj H
  go_enter Tryd.func131, Tryd.ntmps131
  go_wp2
  go_ret
  exact ⟨by first | rfl | (simp; done) | (simp [*]; done), by repeat (first | exact Drawn0.refl _ | apply Drawn0.step)⟩

/-! ### spec_ToneValid: function 130 -/
def spec_ToneValid.f (a0_0 : Int) (a0_1 : Bool) : Option (Bool) := (spec_l6In.f a0_0 0 20).bind fun t114 => (if t114 = true then (if a0_1 = true then ((spec_l1Letter.f a0_0).bind fun t115 => (some (t115 == 2))) else (some true)) else (some false))
set_option maxHeartbeats 8000000 in
set_option maxRecDepth 100000 in
theorem spec_ToneValid.calls (a0_0 : Int) (a0_1 : Bool) (r : Bool) (w : World) (h : spec_ToneValid.f a0_0 a0_1 = some r) :
  Calls Tryd.prog 130 #[.agg #[.int .i64 a0_0, .bool a0_1]] w fun e w' => e = .returned (.bool r) ∧ Below w.heap.size w w' := by
 have hu30 := Tryd.underlying30
 have HB := am (Below.refl w.heap.size w)
 have H : ((spec_l6In.f a0_0 0 20).bind fun t114 => (if t114 = true then (if a0_1 = true then ((spec_l1Letter.f a0_0).bind fun t115 => (some (t115 == 2))) else (some true)) else (some false))) = some r := h
 clear h
 replace H := Option.bind_eq_some_iff.mp H
 obtain ⟨t114, A20, H⟩ := H
 replace H : (if t114 = true then (if a0_1 = true then ((spec_l1Letter.f a0_0).bind fun t115 => (some (t115 == 2))) else (some true)) else (some false)) = some r := H
 have A2 := am A20
 clear A20
 by_cases c3 : t114 = true
 ·subst c3
  have H1 : (if a0_1 = true then ((spec_l1Letter.f a0_0).bind fun t115 => (some (t115 == 2))) else (some true)) = some r := by rw [if_pos rfl] at H; exact H
  clear H
  have H := H1
  clear H1
  by_cases c4 : a0_1 = true
  ·subst c4
   have H1 : ((spec_l1Letter.f a0_0).bind fun t115 => (some (t115 == 2))) = some r := by rw [if_pos rfl] at H; exact H
   clear H
   have H := H1
   clear H1
   replace H := Option.bind_eq_some_iff.mp H
   obtain ⟨t115, A50, H⟩ := H
   replace H : (some (t115 == 2)) = some r := H
   have A5 := am A50
   clear A50
   obtain rfl := Option.some.inj H
   go_enter Tryd.func130, Tryd.ntmps130
   go_wp2_with (first | ((with_reducible refine gate_dst (N := 1) rfl ?_); refine box_event ?hg (N := 1) ?hd (cs := #[.int .i64 a0_0, .bool true]) (t := 30) ?hr ?_; (case hd => rfl); (case hg => rfl); (case hr => first | (go_simp; done) | (go_simp; rfl)); intro gb113 hg w6 hbox hb; have n0_ := am (below_step (bu HB.out) hb); have n1_ := am (hbox); have n2_ := am ((by rw [hg]; exact (below_size (bu HB.out)) : w.heap.size ≤ gb113)); have n3_ := am ((by rw [hg]; exact (below_size (bu HB.out)) : w.heap.size ≤ gb113)); clear HB; have HB := n0_; have BK113 := n1_; have GW113 := n2_; have GE113 := n3_; clear n0_ n1_ n2_ n3_; clear hb hbox hg; have hcz7_0 : w6.cell? ⟨gb113, 0, none⟩ = some (.int .i64 a0_0) := (blk_cell BK113.out 0).trans rfl; have hcz7_1 : w6.cell? ⟨gb113, 1, none⟩ = some (.bool true) := (blk_cell BK113.out 1).trans rfl; have hfz7_0 := blk_frozen BK113.out 0; have hfz7_1 := blk_frozen BK113.out 1) | ((with_reducible refine gate_callee (f := 131) rfl ?_); refine goesL_ (some 5) rfl rfl Tryd.func131 (by kernel_rfl) rfl #[.int .i64 a0_0, .int .i64 0, .int .i64 20] rfl (by (try simp only [List.map_toArray, List.map_cons, List.map_nil]); first | done | rfl | (simp only [List.length_drop, List.length_take]; rfl)) ?_; (with_reducible refine (spec_l6In.calls a0_0 0 20 true _ A2.out).mono ?_); rintro e w' ⟨rfl, ⟨nd, rfl⟩⟩; refine ⟨_, rfl, ?_⟩) | (go_at_call 129; (with_reducible refine (spec_l1Letter.calls a0_0 t115 _ A5.out).mono ?_); rintro e w' ⟨rfl, ⟨nd, rfl⟩⟩))
   go_ret
   exact ⟨by first | rfl | (simp [errW_none, errW_some] <;> rfl) | (simp [*, errW_none, errW_some] <;> rfl), bu HB.out⟩
  ·replace c4 := Bool.eq_false_iff.mpr c4
   subst c4
   have H1 : (some true) = some r := by rw [if_neg (show ¬ (false = true) by decide)] at H; exact H
   clear H
   have H := H1
   clear H1
   obtain rfl := Option.some.inj H
   go_enter Tryd.func130, Tryd.ntmps130
   go_wp2_with (first | ((with_reducible refine gate_dst (N := 1) rfl ?_); refine box_event ?hg (N := 1) ?hd (cs := #[.int .i64 a0_0, .bool false]) (t := 30) ?hr ?_; (case hd => rfl); (case hg => rfl); (case hr => first | (go_simp; done) | (go_simp; rfl)); intro gb113 hg w8 hbox hb; have n0_ := am (below_step (bu HB.out) hb); have n1_ := am (hbox); have n2_ := am ((by rw [hg]; exact (below_size (bu HB.out)) : w.heap.size ≤ gb113)); have n3_ := am ((by rw [hg]; exact (below_size (bu HB.out)) : w.heap.size ≤ gb113)); clear HB; have HB := n0_; have BK113 := n1_; have GW113 := n2_; have GE113 := n3_; clear n0_ n1_ n2_ n3_; clear hb hbox hg; have hcz9_0 : w8.cell? ⟨gb113, 0, none⟩ = some (.int .i64 a0_0) := (blk_cell BK113.out 0).trans rfl; have hcz9_1 : w8.cell? ⟨gb113, 1, none⟩ = some (.bool false) := (blk_cell BK113.out 1).trans rfl; have hfz9_0 := blk_frozen BK113.out 0; have hfz9_1 := blk_frozen BK113.out 1) | ((with_reducible refine gate_callee (f := 131) rfl ?_); refine goesL_ (some 5) rfl rfl Tryd.func131 (by kernel_rfl) rfl #[.int .i64 a0_0, .int .i64 0, .int .i64 20] rfl (by (try simp only [List.map_toArray, List.map_cons, List.map_nil]); first | done | rfl | (simp only [List.length_drop, List.length_take]; rfl)) ?_; (with_reducible refine (spec_l6In.calls a0_0 0 20 true _ A2.out).mono ?_); rintro e w' ⟨rfl, ⟨nd, rfl⟩⟩; refine ⟨_, rfl, ?_⟩))
   go_ret
   exact ⟨by first | rfl | (simp [errW_none, errW_some] <;> rfl) | (simp [*, errW_none, errW_some] <;> rfl), bu HB.out⟩
 ·replace c3 := Bool.eq_false_iff.mpr c3
  subst c3
  have H1 : (some false) = some r := by rw [if_neg (show ¬ (false = true) by decide)] at H; exact H
  clear H
  have H := H1
  clear H1
  obtain rfl := Option.some.inj H
  go_enter Tryd.func130, Tryd.ntmps130
  go_wp2_with (first | ((with_reducible refine gate_dst (N := 1) rfl ?_); refine box_event ?hg (N := 1) ?hd (cs := #[.int .i64 a0_0, .bool a0_1]) (t := 30) ?hr ?_; (case hd => rfl); (case hg => rfl); (case hr => first | (go_simp; done) | (go_simp; rfl)); intro gb113 hg w10 hbox hb; have n0_ := am (below_step (bu HB.out) hb); have n1_ := am (hbox); have n2_ := am ((by rw [hg]; exact (below_size (bu HB.out)) : w.heap.size ≤ gb113)); have n3_ := am ((by rw [hg]; exact (below_size (bu HB.out)) : w.heap.size ≤ gb113)); clear HB; have HB := n0_; have BK113 := n1_; have GW113 := n2_; have GE113 := n3_; clear n0_ n1_ n2_ n3_; clear hb hbox hg; have hcz11_0 : w10.cell? ⟨gb113, 0, none⟩ = some (.int .i64 a0_0) := (blk_cell BK113.out 0).trans rfl; have hcz11_1 : w10.cell? ⟨gb113, 1, none⟩ = some (.bool a0_1) := (blk_cell BK113.out 1).trans rfl; have hfz11_0 := blk_frozen BK113.out 0; have hfz11_1 := blk_frozen BK113.out 1) | ((with_reducible refine gate_callee (f := 131) rfl ?_); refine goesL_ (some 5) rfl rfl Tryd.func131 (by kernel_rfl) rfl #[.int .i64 a0_0, .int .i64 0, .int .i64 20] rfl (by (try simp only [List.map_toArray, List.map_cons, List.map_nil]); first | done | rfl | (simp only [List.length_drop, List.length_take]; rfl)) ?_; (with_reducible refine (spec_l6In.calls a0_0 0 20 false _ A2.out).mono ?_); rintro e w' ⟨rfl, ⟨nd, rfl⟩⟩; refine ⟨_, rfl, ?_⟩))
  go_ret
  exact ⟨by first | rfl | (simp [errW_none, errW_some] <;> rfl) | (simp [*, errW_none, errW_some] <;> rfl), bu HB.out⟩

/-! ### spec_MelodyValid: function 93 -/
def spec_MelodyValid.l0 : Nat → List (S30) → Int → Option (Bool)
 | 0, _, _ => none
 | k + 1, x0, x3 => if x3 < (x0.length : Int) then (if 0 ≤ x3 then ((spec_ToneValid.f ((rd_T30 x0 x3).f0) ((rd_T30 x0 x3).f1)).bind fun t117 => (if t117 = true then (spec_MelodyValid.l0 k x0 (wrap64 (x3 + 1))) else (some false))) else (none)) else (some (decide ((x0.length : Int) ≤ 24)))
def spec_MelodyValid.f (k : Nat) (l0 : List (S30)) : Option (Bool) := spec_MelodyValid.l0 k l0 0
set_option maxHeartbeats 8000000 in
set_option maxRecDepth 100000 in
theorem spec_MelodyValid.calls (k : Nat) (A0 : Option Addr) (c0 : Nat) (l0 : List (S30)) (r : Bool) (w : World) (hr0 : Kd.C k30 w A0 l0.length l0) (hc0 : l0.length ≤ c0) (h : spec_MelodyValid.f k l0 = some r) :
  Calls Tryd.prog 93 #[.slice A0 l0.length c0] w fun e w' => e = .returned (.bool r) ∧ Below w.heap.size w w' := by
 have hu30 := Tryd.underlying30
 have HR0 := am hr0
 have HC0 := am hc0
 clear hr0 hc0
 have HB := am (Below.refl w.heap.size w)
 have H : (spec_MelodyValid.l0 k l0 0) = some r := h
 clear h
 have H' := am H
 clear H
 go_enter Tryd.func93, Tryd.ntmps93
 go_wp2
 go_loopg [3] k (fun kq v3 w' => ∃ (x3_1 : Int), v3 = .int .i64 x3_1 ∧ Aside0 (spec_MelodyValid.l0 kq l0 x3_1 = some r) ∧ Aside0 (kq ≤ k) ∧ Aside0 (Below w.heap.size w w'))
 case atStart => exact ⟨(0), (by first | rfl | (simp; done) | (simp [*]; done)), H', ⟨Nat.le_refl _⟩, ⟨bu HB.out⟩⟩
 case round =>
  clear H'
  obtain ⟨x3_1, rfl, HA, HK1, HB⟩ := hrel
  cases gk with
  | zero => exact absurd HA.out (by simp [spec_MelodyValid.l0])
  | succ k1 =>
   have H := HA.out
   clear HA
   simp only [spec_MelodyValid.l0] at H
   by_cases c2 : x3_1 < (l0.length : Int)
   ·rw [if_pos c2] at H
    have c2b0 : decide (x3_1 < (l0.length : Int)) = true := decide_eq_true c2
    clear c2
    by_cases c3 : 0 ≤ x3_1
    ·rw [if_pos c3] at H
     have c3b0 : decide (0 ≤ x3_1) = true := decide_eq_true c3
     clear c3
     replace H := Option.bind_eq_some_iff.mp H
     obtain ⟨t117, A40, H⟩ := H
     replace H : (if t117 = true then (spec_MelodyValid.l0 k1 l0 (wrap64 (x3_1 + 1))) else (some false)) = some r := H
     have A4 := am A40
     clear A40
     by_cases c5 : t117 = true
     ·subst c5
      have H1 : (spec_MelodyValid.l0 k1 l0 (wrap64 (x3_1 + 1))) = some r := by rw [if_pos rfl] at H; exact H
      clear H
      have H := H1
      clear H1
      have H' := am H
      clear H
      have p116 : 0 ≤ (x3_1 : Int) := od
      have q116 : x3_1 < (l0.length : Int) := od
      obtain ⟨ad116, e116, hx116_0, hx116_1⟩ := at_T30 HR0.out x3_1 p116 q116
      cases e116
      replace hx116_0 := (HB.out.cell (World.block_lt_of_cell? w _ hx116_0)).trans hx116_0
      replace hx116_1 := (HB.out.cell (World.block_lt_of_cell? w _ hx116_1)).trans hx116_1
      replace p116 := eq_true p116
      replace q116 := eq_true q116
      go_wp2_with (first | ((with_reducible refine gate_callee (f := 130) rfl ?_); refine goesL_ (some 14) rfl rfl Tryd.func130 (by kernel_rfl) rfl #[.agg #[.int .i64 ((rd_T30 l0 x3_1).f0), .bool ((rd_T30 l0 x3_1).f1)]] rfl (by (try simp only [List.map_toArray, List.map_cons, List.map_nil]); first | done | rfl | (simp only [List.length_drop, List.length_take]; rfl)) ?_; (with_reducible refine (spec_ToneValid.calls ((rd_T30 l0 x3_1).f0) ((rd_T30 l0 x3_1).f1) true _ A4.out).mono ?_); rintro e w6 ⟨rfl, hb⟩; refine ⟨_, rfl, ?_⟩; have n0_ := am (below_step (bu HB.out) hb); clear HB; have HB := n0_; clear n0_; (try clear hb); (try clear hb2); (try clear hk); (try clear hi)))
      go_roundg k1
      case measure => have := HK1.out; omega
      case rel => exact ⟨(wrap64 (x3_1 + 1)), (by first | rfl | (simp; done) | (simp [*]; done)), H', ⟨by have := HK1.out; omega⟩, ⟨bu HB.out⟩⟩
     ·replace c5 := Bool.eq_false_iff.mpr c5
      subst c5
      have H1 : (some false) = some r := by rw [if_neg (show ¬ (false = true) by decide)] at H; exact H
      clear H
      have H := H1
      clear H1
      obtain rfl := Option.some.inj H
      have p116 : 0 ≤ (x3_1 : Int) := od
      have q116 : x3_1 < (l0.length : Int) := od
      obtain ⟨ad116, e116, hx116_0, hx116_1⟩ := at_T30 HR0.out x3_1 p116 q116
      cases e116
      replace hx116_0 := (HB.out.cell (World.block_lt_of_cell? w _ hx116_0)).trans hx116_0
      replace hx116_1 := (HB.out.cell (World.block_lt_of_cell? w _ hx116_1)).trans hx116_1
      replace p116 := eq_true p116
      replace q116 := eq_true q116
      go_wp2_with (first | ((with_reducible refine gate_callee (f := 130) rfl ?_); refine goesL_ (some 14) rfl rfl Tryd.func130 (by kernel_rfl) rfl #[.agg #[.int .i64 ((rd_T30 l0 x3_1).f0), .bool ((rd_T30 l0 x3_1).f1)]] rfl (by (try simp only [List.map_toArray, List.map_cons, List.map_nil]); first | done | rfl | (simp only [List.length_drop, List.length_take]; rfl)) ?_; (with_reducible refine (spec_ToneValid.calls ((rd_T30 l0 x3_1).f0) ((rd_T30 l0 x3_1).f1) false _ A4.out).mono ?_); rintro e w7 ⟨rfl, hb⟩; refine ⟨_, rfl, ?_⟩; have n0_ := am (below_step (bu HB.out) hb); clear HB; have HB := n0_; clear n0_; (try clear hb); (try clear hb2); (try clear hk); (try clear hi)))
      go_ret
      exact ⟨by first | rfl | (simp [errW_none, errW_some] <;> rfl) | (simp [*, errW_none, errW_some] <;> rfl), bu HB.out⟩
    ·rw [if_neg c3] at H
     exact absurd H (by simp)
   ·rw [if_neg c2] at H
    have c2b0 : decide (x3_1 < (l0.length : Int)) = false := decide_eq_false c2
    clear c2
    obtain rfl := Option.some.inj H
    go_wp2
    go_ret
    exact ⟨by first | rfl | (simp [errW_none, errW_some] <;> rfl) | (simp [*, errW_none, errW_some] <;> rfl), bu HB.out⟩

end Go.Proofs.YtcndojoghmblaaaDoor.MR
