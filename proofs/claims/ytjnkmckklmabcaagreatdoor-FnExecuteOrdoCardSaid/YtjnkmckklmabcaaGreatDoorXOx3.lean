-- Made by this session's gprint.py out of the translation. Not trusted: Lean checks it.
import Derived.Test.YtjnkmckklmabcaaGreatDoorShelf
import Derived.Test.YtjnkmckklmabcaaGreatDoorXOx0
import Derived.Test.YtjnkmckklmabcaaGreatDoorXOx1
import Derived.Test.YtjnkmckklmabcaaGreatDoorXOx2
namespace Go.Proofs.YtjnkmckklmabcaaGreatDoor.XO
open Go.RowKit Go.Proofs.YtjnkmckklmabcaaGreatDoorW.PrintWords Go.Proofs.YtjnkmckklmabcaaGreatDoorW.PrintLast Go.Proofs.YtjnkmckklmabcaaGreatDoorW.PrintMore
attribute [local go_sem] max2_int min2_int max_two min_two max_three min_three max_four min_four   -- for this text's walks alone
set_option linter.unusedVariables false
set_option linter.unusedSimpArgs false

/-! ### the commands, by hand -/
def cmdT : List (ByteArray × Int × Nat) := [(⟨#[109, 101, 108, 111, 100, 121]⟩, -1, 143), (⟨#[97, 100, 100]⟩, 1, 144), (⟨#[109, 111, 118, 101]⟩, 1, 145), (⟨#[115, 104, 111, 119]⟩, 0, 146), (⟨#[115, 116, 101, 112, 115]⟩, 0, 147), (⟨#[115, 105, 110, 103]⟩, 0, 148), (⟨#[110, 101, 117, 109, 101]⟩, 0, 149), (⟨#[109, 111, 100, 101, 115]⟩, 0, 150), (⟨#[109, 111, 100, 101]⟩, 0, 151), (⟨#[101, 110, 116, 101, 114]⟩, 1, 152), (⟨#[102, 105, 110, 100]⟩, 0, 153), (⟨#[111, 114, 100, 111]⟩, 2, 154)]
def cmdCells : List Value := cmdT.flatMap fun t => [.string t.1, .int .i64 t.2.1, .func (.func t.2.2) #[] #[]]
set_option maxRecDepth 100000 in
theorem allCommands_any (w : World) : Calls Tryz.prog 111 #[] w fun e w' => e = .returned (.slice (some ⟨w.heap.size, 0, none⟩) 12 12) ∧ w' = w.alloc (.cells cmdCells.toArray 114) := by
 go_enter Tryz.func111, Tryz.ntmps111
 go_wp2
 go_ret
 exact ⟨rfl, rfl⟩
theorem results_c1 {P : Program} {fn : Func} {p : Tmp} {ty : TypeId} (h : fn.results = #[.cell p ty]) (tmps : Array Value) (w : World) (g : Nat) (t : TypeId) (cs : Array Value) (fr : Nat × Nat) (d : TypeDesc)
  (hp : tmps.getD p undef = .pointer (some ⟨g, 0, none⟩)) (hg : w.heap[g]? = some (.cells cs t fr))
  (hu : P.underlying ty = some d) (hd : (match d with | .struct _ | .array _ _ => true | _ => false) = true) (hi : (P.info? ty).map (·.size) = some cs.size) :
  (results fn tmps).run P w = .ok (.agg cs) w := by
 have hp' : tmps[p]?.getD undef = .pointer (some ⟨g, 0, none⟩) := by simpa using hp
 simp [results, h, hp', asAddr, run_loadVar_row w g t ty cs fr d hg hu hd hi]
def cmdM (ws : List ByteArray) (t : ByteArray × Int × Nat) : Bool := (t.1.toList == (ws.headD ⟨#[]⟩).toList) && ((t.2.1 == -1) || (t.2.1 == (ws.length : Int) - 1))
theorem cmd_cell {W : World} {gt i : Nat} {t : ByteArray × Int × Nat} {T : Nat} (h : W.heap[gt]? = some (.cells cmdCells.toArray T (0, 0))) (hi : cmdT[i]? = some t) : W.cell? ⟨gt, i * 3, none⟩ = some (.string t.1) ∧ W.cell? ⟨gt, i * 3 + 1, none⟩ = some (.int .i64 t.2.1) ∧ W.cell? ⟨gt, i * 3 + 2, none⟩ = some (.func (.func t.2.2) #[] #[]) := by
 have key : ∀ j v, cmdCells[j]? = some v → W.cell? ⟨gt, j, none⟩ = some v := fun j v hj => (blk_cell h j).trans (by rw [List.getElem?_toArray]; exact hj)
 have hl : i < 12 := (List.getElem?_eq_some_iff.1 hi).1
 have : i = 0 ∨ i = 1 ∨ i = 2 ∨ i = 3 ∨ i = 4 ∨ i = 5 ∨ i = 6 ∨ i = 7 ∨ i = 8 ∨ i = 9 ∨ i = 10 ∨ i = 11 := by omega
 rcases this with rfl | rfl | rfl | rfl | rfl | rfl | rfl | rfl | rfl | rfl | rfl | rfl
 all_goals
  obtain rfl := Option.some.inj hi
  exact ⟨key _ _ rfl, key _ _ rfl, key _ _ rfl⟩
set_option maxHeartbeats 4000000 in
set_option maxRecDepth 100000 in
theorem commandFor_any (ws : List ByteArray) (b : Nat) (c : Nat) (i0 : Nat) (t : ByteArray × Int × Nat) (w : World) (hw : w.heap[b]? = some (.cells (ws.map Value.string).toArray 9 (0, 0))) (hc : ws.length ≤ c) (hlen : ws.length < 4294967296) (x0 : ByteArray) (hx : ws.head? = some x0) (hi : cmdT[i0]? = some t) (hm : cmdM ws t = true) (hlt : ∀ j u, j < i0 → cmdT[j]? = some u → cmdM ws u = false) :
  Calls Tryz.prog 82 #[.slice (some ⟨b, 0, none⟩) ws.length c] w fun e w' => e = .returned (.agg #[.string t.1, .int .i64 t.2.1, .func (.func t.2.2) #[] #[]]) ∧ Below w.heap.size w w' := by
 have HW := am hw
 obtain ⟨nl, hnl⟩ : ∃ nl : Nat, nl = ws.length := ⟨_, rfl⟩
 rw [← hnl] at hlen hc ⊢
 have HNL := am hnl
 clear hnl
 have HI := am hi
 have HM := am hm
 have HL := am hlt
 have HX := am hx
 have HB0 := am (below_alloc (Below.refl w.heap.size w) (.cells #[.string ⟨#[]⟩, .int .i64 0, .nilFunc] 114))
 have HW0 := am (blk_alloc hw (.cells #[.string ⟨#[]⟩, .int .i64 0, .nilFunc] 114))
 have HZ0 := am (blk_new w (.cells #[.string ⟨#[]⟩, .int .i64 0, .nilFunc] 114))
 clear hw hi hm hlt hx
 go_enter Tryz.func82, Tryz.ntmps82
 go_wp2_with fail
 refine (allCommands_any _).mono ?_
 rintro e w1 ⟨rfl, rfl⟩
 obtain ⟨gt, hgt⟩ : ∃ gt, gt = (w.alloc (.cells #[.string ⟨#[]⟩, .int .i64 0, .nilFunc] 114)).heap.size := ⟨_, rfl⟩
 have HT1 := am (blk_new (w.alloc (.cells #[.string ⟨#[]⟩, .int .i64 0, .nilFunc] 114)) (.cells cmdCells.toArray 114))
 have HW1 := am (blk_alloc HW0.out (.cells cmdCells.toArray 114))
 have HZ1 := am (blk_alloc HZ0.out (.cells cmdCells.toArray 114))
 have HB1 := am (below_alloc HB0.out (.cells cmdCells.toArray 114))
 rw [← hgt] at HT1 ⊢
 have HG := am hgt
 obtain ⟨gz, hgz⟩ : ∃ gz, gz = w.heap.size := ⟨_, rfl⟩
 have HGZ := am hgz
 rw [← hgz] at HZ1 ⊢
 generalize (w.alloc (.cells #[.string ⟨#[]⟩, .int .i64 0, .nilFunc] 114)).alloc (.cells cmdCells.toArray 114) = W1 at HT1 HW1 HZ1 HB1 ⊢
 clear HW0 HZ0 HB0 HW hgt hgz
 go_wp2_with fail
 go_loopg [7] 12 (fun kq v7 w' => ∃ (i : Nat), v7 = .int .i64 (i : Int) ∧ Aside0 (i ≤ i0 ∧ kq = 12 - i) ∧ Aside0 (w'.heap[gt]? = some (.cells cmdCells.toArray 114 (0, 0))) ∧ Aside0 (w'.heap[b]? = some (.cells (ws.map Value.string).toArray 9 (0, 0))) ∧ Aside0 (w'.heap[gz]? = some (.cells #[.string ⟨#[]⟩, .int .i64 0, .nilFunc] 114 (0, 0))) ∧ Aside0 (Below w.heap.size w w'))
 case atStart => exact ⟨0, rfl, ⟨by omega, by omega⟩, HT1, HW1, HZ1, HB1⟩
 case round =>
  obtain ⟨i, rfl, HI2, HT, HW, HZ, HB⟩ := hrel
  clear HT1 HW1 HZ1 HB1
  have hl0 : i0 < 12 := (List.getElem?_eq_some_iff.1 HI.out).1
  have hi12 : i < 12 := by have := HI2.out; omega
  obtain ⟨u, hu⟩ : ∃ u, cmdT[i]? = some u := ⟨_, List.getElem?_eq_getElem (show i < cmdT.length from hi12)⟩
  obtain ⟨k0, k1, k2⟩ := cmd_cell HT.out hu
  have HU := am hu
  have q0 : decide ((i : Int) < 12) = true := decide_eq_true (by omega)
  have p0 : 0 ≤ (i : Int) := by omega
  have p1 : (i : Int) < 12 := by omega
  replace p0 := eq_true p0
  replace p1 := eq_true p1
  clear hu hl0
  obtain ⟨u0, u1, u2⟩ := u
  dsimp only at k0 k1 k2
  have hsf : ∀ (a : Addr) (fn : Fn) (f c : Array Value) (m : Mode) (w : World), (store a (.func fn f c) m).run Tryz.prog w = stored Tryz.prog w a (.func fn f c) m := fun a fn f c m w => run_store Tryz.prog w a _ m rfl
  go_upto_region 4 with fail
  obtain ⟨gl, hgl⟩ : ∃ gl, gl = wr.heap.size := ⟨_, rfl⟩
  have HL2 := am (blk_new wr (.cells #[.string u0, .int .i64 u1, .func (.func u2) #[] #[]] 114))
  have HW2 := am (blk_alloc HW.out (.cells #[.string u0, .int .i64 u1, .func (.func u2) #[] #[]] 114))
  have HT2 := am (blk_alloc HT.out (.cells #[.string u0, .int .i64 u1, .func (.func u2) #[] #[]] 114))
  have HZ2 := am (blk_alloc HZ.out (.cells #[.string u0, .int .i64 u1, .func (.func u2) #[] #[]] 114))
  have HB2 := am (below_alloc HB.out (.cells #[.string u0, .int .i64 u1, .func (.func u2) #[] #[]] 114))
  rw [← hgl] at HL2 ⊢
  generalize wr.alloc (.cells #[.string u0, .int .i64 u1, .func (.func u2) #[] #[]] 114) = W2 at HL2 HW2 HT2 HZ2 HB2 ⊢
  clear k0 k1 k2 HW HT HZ HB hgl
  obtain ⟨xs, rfl⟩ : ∃ xs, ws = x0 :: xs := by
   have := HX.out
   cases ws with
   | nil => simp at this
   | cons a l => exact ⟨l, by have := Option.some.inj this; rw [this]⟩
  have c0 : W2.cell? ⟨gl, 0, none⟩ = some (.string u0) := (blk_cell HL2.out 0).trans rfl
  have c1 : W2.cell? ⟨gl, 1, none⟩ = some (.int .i64 u1) := (blk_cell HL2.out 1).trans rfl
  have c2 : W2.cell? ⟨gl, 2, none⟩ = some (.func (.func u2) #[] #[]) := (blk_cell HL2.out 2).trans rfl
  have d0 : W2.cell? ⟨b, 0, none⟩ = some (.string x0) := (blk_cell HW2.out 0).trans rfl
  have r1 : (0 : Int) < (nl : Int) := by rw [HNL.out, List.length_cons]; omega
  have r2 : (0 < nl) = True := eq_true (by omega)
  replace r1 := eq_true r1
  have HEQ := am (show cmdM (x0 :: xs) (u0, u1, u2) = ((u0.toList == x0.toList) && ((u1 == -1) || (u1 == (nl : Int) - 1))) by rw [HNL.out]; rfl)
  have w1 : wrap64 ((nl : Int) - 1) = (nl : Int) - 1 := by unfold wrap64; omega
  by_cases e0 : u0.toList = x0.toList
  ·have b0 : (u0.toList == x0.toList) = true := by rw [e0]; exact beq_self_eq_true _
   by_cases e1 : u1 = -1
   ·have b1 : (u1 == -1) = true := by rw [e1]; rfl
    replace HEQ := am (HEQ.out.trans (show _ = true by rw [b0, b1]; rfl))
    clear e0 e1
    go_quiet (fail)
    obtain ⟨rfl, HTU⟩ : i = i0 ∧ Aside0 (t = (u0, u1, u2)) := by
     by_cases hx2 : i = i0
     ·refine ⟨hx2, ⟨?_⟩⟩
      have a := HI.out
      rw [← hx2, HU.out] at a
      exact (Option.some.inj a).symm
     ·exfalso
      have a := HL.out i _ (by have := HI2.out; omega) HU.out
      rw [HEQ.out] at a
      exact absurd a (by decide)
    have c0' : (W2.drewN nq).cell? ⟨gl, 0, none⟩ = some (.string u0) := c0
    have c1' : (W2.drewN nq).cell? ⟨gl, 1, none⟩ = some (.int .i64 u1) := c1
    have c2' : (W2.drewN nq).cell? ⟨gl, 2, none⟩ = some (.func (.func u2) #[] #[]) := c2
    have HZ3 := am (blk_drewN HZ2.out nq)
    have HB3 := am (pw_below_drewN HB2.out nq)
    clear c0 c1 c2 d0 HZ2 HW2 HT2 HL2
    generalize W2.drewN nq = W3 at c0' c1' c2' HZ3 HB3 ⊢
    have z0 : W3.cell? ⟨gz, 0, none⟩ = some (.string ⟨#[]⟩) := (blk_cell HZ3.out 0).trans rfl
    have z1 : W3.cell? ⟨gz, 1, none⟩ = some (.int .i64 0) := (blk_cell HZ3.out 1).trans rfl
    have z2 : W3.cell? ⟨gz, 2, none⟩ = some .nilFunc := (blk_cell HZ3.out 2).trans rfl
    have qf := fun i => blk_frozen HZ3.out i
    go_wp2_with fail
    refine bodyPost_ret (results_c1 rfl _ _ gz 114 #[.string u0, .int .i64 u1, .func (.func u2) #[] #[]] (0, 0) _ rfl (blk_put (cs' := #[.string u0, .int .i64 u1, .func (.func u2) #[] #[]]) (blk_put (cs' := #[.string u0, .int .i64 u1, .nilFunc]) (blk_put (cs' := #[.string u0, .int .i64 0, .nilFunc]) HZ3.out 0 (.string u0) rfl) 1 (.int .i64 u1) rfl) 2 (.func (.func u2) #[] #[]) rfl) Tryz.underlying114 rfl (by kernel_rfl)) rfl ?_
    exact ⟨by rw [HTU.out], by rw [HGZ.out]; exact below_set (below_set (below_set HB3.out (Nat.le_refl _)) (Nat.le_refl _)) (Nat.le_refl _)⟩
   ·have b1 : (u1 == -1) = false := beq_eq_false_iff_ne.2 e1
    by_cases e2 : u1 = (nl : Int) - 1
    ·have b2 : (u1 == (nl : Int) - 1) = true := by rw [e2]; exact beq_self_eq_true _
     replace HEQ := am (HEQ.out.trans (show _ = true by rw [b0, b1, b2]; rfl))
     clear e0 e1 e2
     go_quiet (fail)
     obtain ⟨rfl, HTU⟩ : i = i0 ∧ Aside0 (t = (u0, u1, u2)) := by
      by_cases hx2 : i = i0
      ·refine ⟨hx2, ⟨?_⟩⟩
       have a := HI.out
       rw [← hx2, HU.out] at a
       exact (Option.some.inj a).symm
      ·exfalso
       have a := HL.out i _ (by have := HI2.out; omega) HU.out
       rw [HEQ.out] at a
       exact absurd a (by decide)
     have c0' : (W2.drewN nq).cell? ⟨gl, 0, none⟩ = some (.string u0) := c0
     have c1' : (W2.drewN nq).cell? ⟨gl, 1, none⟩ = some (.int .i64 u1) := c1
     have c2' : (W2.drewN nq).cell? ⟨gl, 2, none⟩ = some (.func (.func u2) #[] #[]) := c2
     have HZ3 := am (blk_drewN HZ2.out nq)
     have HB3 := am (pw_below_drewN HB2.out nq)
     clear c0 c1 c2 d0 HZ2 HW2 HT2 HL2
     generalize W2.drewN nq = W3 at c0' c1' c2' HZ3 HB3 ⊢
     have z0 : W3.cell? ⟨gz, 0, none⟩ = some (.string ⟨#[]⟩) := (blk_cell HZ3.out 0).trans rfl
     have z1 : W3.cell? ⟨gz, 1, none⟩ = some (.int .i64 0) := (blk_cell HZ3.out 1).trans rfl
     have z2 : W3.cell? ⟨gz, 2, none⟩ = some .nilFunc := (blk_cell HZ3.out 2).trans rfl
     have qf := fun i => blk_frozen HZ3.out i
     go_wp2_with fail
     refine bodyPost_ret (results_c1 rfl _ _ gz 114 #[.string u0, .int .i64 u1, .func (.func u2) #[] #[]] (0, 0) _ rfl (blk_put (cs' := #[.string u0, .int .i64 u1, .func (.func u2) #[] #[]]) (blk_put (cs' := #[.string u0, .int .i64 u1, .nilFunc]) (blk_put (cs' := #[.string u0, .int .i64 0, .nilFunc]) HZ3.out 0 (.string u0) rfl) 1 (.int .i64 u1) rfl) 2 (.func (.func u2) #[] #[]) rfl) Tryz.underlying114 rfl (by kernel_rfl)) rfl ?_
     exact ⟨by rw [HTU.out], by rw [HGZ.out]; exact below_set (below_set (below_set HB3.out (Nat.le_refl _)) (Nat.le_refl _)) (Nat.le_refl _)⟩
    ·have b2 : (u1 == (nl : Int) - 1) = false := beq_eq_false_iff_ne.2 e2
     replace HEQ := am (HEQ.out.trans (show _ = false by rw [b0, b1, b2]; rfl))
     clear e0 e1 e2
     go_quiet (fail)
     have HNE : Aside0 (i ≠ i0) := ⟨fun e => by
      have a := HI.out
      rw [← e, HU.out] at a
      have b := HM.out
      rw [← Option.some.inj a, HEQ.out] at b
      exact absurd b (by decide)⟩
     have HZ3 := am (blk_drewN HZ2.out nq)
     have HT3 := am (blk_drewN HT2.out nq)
     have HW3 := am (blk_drewN HW2.out nq)
     have HB3 := am (pw_below_drewN HB2.out nq)
     clear c0 c1 c2 d0 HZ2 HW2 HT2 HL2 HB2
     generalize W2.drewN nq = W3 at HZ3 HT3 HW3 HB3 ⊢
     go_wp2_with fail
     go_roundg (12 - (i + 1))
     case measure => have := HI2.out; omega
     case rel => exact ⟨i + 1, by have h2 : wrap64 ((i : Int) + 1) = (i : Int) + 1 := (by unfold wrap64; omega); simp [h2], ⟨by have := HI2.out; have := HNE.out; omega, rfl⟩, HT3, HW3, HZ3, HB3⟩
  ·have b0 : (u0.toList == x0.toList) = false := beq_eq_false_iff_ne.2 e0
   replace HEQ := am (HEQ.out.trans (show _ = false by rw [b0]; rfl))
   clear e0
   go_quiet (fail)
   have HNE : Aside0 (i ≠ i0) := ⟨fun e => by
    have a := HI.out
    rw [← e, HU.out] at a
    have b := HM.out
    rw [← Option.some.inj a, HEQ.out] at b
    exact absurd b (by decide)⟩
   have HZ3 := am (blk_drewN HZ2.out nq)
   have HT3 := am (blk_drewN HT2.out nq)
   have HW3 := am (blk_drewN HW2.out nq)
   have HB3 := am (pw_below_drewN HB2.out nq)
   clear c0 c1 c2 d0 HZ2 HW2 HT2 HL2 HB2
   generalize W2.drewN nq = W3 at HZ3 HT3 HW3 HB3 ⊢
   go_wp2_with fail
   go_roundg (12 - (i + 1))
   case measure => have := HI2.out; omega
   case rel => exact ⟨i + 1, by have h2 : wrap64 ((i : Int) + 1) = (i : Int) + 1 := (by unfold wrap64; omega); simp [h2], ⟨by have := HI2.out; have := HNE.out; omega, rfl⟩, HT3, HW3, HZ3, HB3⟩
def splitS (s : ByteArray) : List ByteArray := Lib.splitB ⟨#[32]⟩ 0 (Lib.countB s ⟨#[32]⟩) s
theorem splitS_len (s : ByteArray) : (splitS s).length = Lib.countB s ⟨#[32]⟩ + 1 := Lib.splitB_all ⟨#[32]⟩ (by decide) 0 _ s rfl
theorem splitS_le (s : ByteArray) : (splitS s).length ≤ s.size + 1 := by
 rw [splitS_len]
 have := Lib.countB_le ⟨#[32]⟩ (by decide) s.size s (Nat.le_refl _)
 omega
set_option maxHeartbeats 4000000 in
set_option maxRecDepth 100000 in
theorem line_idle (q : Addr) (w : World) : CallsD Tryz.prog 80 #[.pointer (some q)] .returning w fun e u' w' => e = .returned (.tuple #[]) ∧ u' = .returning ∧ w' = w := by
 have hnn : ∀ w : World, (binOp BinOp.neq 20 .nilIface .nilIface).run Tryz.prog w = .ok (.bool false) w := fun _ => by kernel_rfl
 refine callsD_of_wpS Tryz.func80 rfl fun c₀ cs hu => ?_
 apply wpS_seq
 apply wpS_region
 simp [wpOpsS, go_sem, recoverD, hu, Tryz.ntmps80, Exit.thenS]
 apply wpS_seq
 apply wpS_region
 simp [wpOpsS, go_sem, hnn, Exit.thenS]
 refine wpS_cond (t := false) (by simp [Act.eval, Array.replicate]) ?_
 simp only [Bool.false_eq_true, if_false]
 refine wpS_of_wp (wp_skip ?_)
 cases c₀
 simp_all [bodyPostS, results, Tryz.results80]
def noP (Q : Exit → Act → World → Prop) : Exit → Act → World → Prop
 | .normal, a, w => Q .normal a w
 | _, _, _ => False
theorem noP_le (Q : Exit → Act → World → Prop) : ∀ e a w, noP Q e a w → Q e a w := fun e a w h => by cases e <;> first | exact h | exact h.elim
theorem noP_in {Q : Exit → Act → World → Prop} {a : Act} {w : World} (h : Q .normal a w) : noP Q .normal a w := h
/-- All but block g stays, nothing is read or written outside. -/
def Kb (w w' : World) (g : Nat) : Prop := KeepBut w w' g none ∧ Below 0 w w'
theorem Kb.refl (w : World) (g : Nat) : Kb w w g := ⟨KeepBut.refl w g none, Below.refl 0 w⟩
theorem below_zero {w w' : World} {B : Nat} (h : Below B w w') : Below 0 w w' := ⟨h.os, h.tape, h.output, h.size, fun k hk => absurd hk (Nat.not_lt_zero k)⟩
theorem Kb.of_below {w w' : World} (h : Below w.heap.size w w') (g : Nat) : Kb w w' g := ⟨KeepBut.of_below h g none, below_zero h⟩
theorem Kb.trans {w w1 w2 : World} {g : Nat} (h : Kb w w1 g) (k : Kb w1 w2 g) : Kb w w2 g := ⟨KeepBut.trans h.1 k.1 (.inl rfl), h.2.trans k.2⟩
theorem below0_set {w w1 : World} (h : Below 0 w w1) (a : Addr) (u : Value) : Below 0 w (w1.setCell a u) := ⟨h.os, h.tape, h.output, by simpa [World.setCell] using h.size, fun k hk => absurd hk (Nat.not_lt_zero k)⟩
theorem Kb.set_new {w w1 : World} {g : Nat} (h : Kb w w1 g) {a : Addr} (ha : w.heap.size ≤ a.block) (u : Value) : Kb w (w1.setCell a u) g :=
 ⟨⟨by simpa [World.setCell] using h.1.1, fun i hi hg hr => (Below.heap_setCell w1 a u i (by omega)).trans (h.1.2 i hi hg hr)⟩, below0_set h.2 _ u⟩
theorem Kb.below {w0 w w' : World} {g B : Nat} (h : Kb w w' g) (hb : Below B w0 w) (hg : B ≤ g) (hB : B ≤ w.heap.size) : Below B w0 w' :=
 ⟨h.2.os.trans hb.os, h.2.tape.trans hb.tape, h.2.output.trans hb.output, Nat.le_trans hb.size h.2.size, fun k hk => (h.1.2 k (by omega) (by omega) (by simp)).trans (hb.block k hk)⟩
theorem goesV_ {P : Program} {ops : Array Oper} {Q : Exit → Act → World → Prop} {oi : Oper} {N : Option Tmp} {a : Act} {w : World} {K : Act → World → Prop} {f : FuncId} {fn : Func} {az : Array Operand} {ts : Array TypeId} (hf : P.funcs[f]? = some fn) (hname : (fn.name == "runtime.NumGoroutine") = false) (hb : fn.body.isSome = true) (s : Tmp) (hv : a.eval (.tmp s) = .func (.func f) #[] #[]) (args : Array Value)
  (hw : Region.wanted oi (yielded ops a.tmps) = true) (hN : oi.dst = N) (hop : oi.op = .call { callee := .value (.tmp s), args := az, argTypes := ts }) (hargs : az.map a.eval = args)
  (h : Calls P f args w fun e w' => ∃ v, e = .returned v ∧ K (a.put N v) w') : if Region.wanted oi (yielded ops a.tmps) = true then Oper.wp P oi a w K Q else K (a.put N undef) w := by
 refine call_ f args hw hN ?_ h
 have he := enters_ hf hname hb args w
 unfold execOp
 simp [hop, resolve, hv, Deferred.ofValue, invoke, hargs, he]
set_option maxHeartbeats 4000000 in
set_option maxRecDepth 100000 in
theorem runLine_any (g : Nat) (line out : ByteArray) (i0 : Nat) (t : ByteArray × Int × Nat) (w : World) (Q : World → Prop) (hTM : TabM w) (hg : g < w.heap.size) (hsz : line.size < 4294967281) (hi : cmdT[i0]? = some t) (hm : cmdM (splitS line) t = true) (hlt : ∀ j u, j < i0 → cmdT[j]? = some u → cmdM (splitS line) u = false)
  {fn : Func} (hf : Tryz.prog.funcs[t.2.2]? = some fn) (hname : (fn.name == "runtime.NumGoroutine") = false) (hbody : fn.body.isSome = true)
  (H : ∀ (b : Nat) (w1 : World), w.heap.size < b → w1.heap[b]? = some (.cells ((splitS line).map Value.string).toArray 9 (0, 0)) → Below w.heap.size w w1 → Calls Tryz.prog t.2.2 #[.pointer (some ⟨g, 0, none⟩), .slice (if (splitS line).length = 1 then some ⟨b, 0, none⟩ else some ⟨b, 1, none⟩) ((splitS line).length - 1) ((splitS line).length - 1)] w1 fun e w2 => e = .returned (.string out) ∧ Kb w1 w2 g ∧ Q w2) :
  Calls Tryz.prog 43 #[.pointer (some ⟨g, 0, none⟩), .string line] w fun e w' => e = .returned (.string out) ∧ ∃ w2, Q w2 ∧ Kb w w2 g ∧ w2.heap[w.heap.size]? = some (.cells #[.string ⟨#[]⟩] 9 (0, 0)) ∧ w' = w2.setCell ⟨w.heap.size, 0, none⟩ (.string out) := by
 have hmf : ∀ (fn : Fn) (first cap : Array Value) (w : World), (Instr.makeFunc fn first cap).run Tryz.prog w = .ok (.func fn first cap) w := fun _ _ _ _ => rfl
 have hfd : ∀ (a b c : Value) (w : World), (Instr.field 114 (.agg #[a, b, c]) 2).run Tryz.prog w = .ok c w := fun _ _ _ _ => by kernel_rfl
 have HM := am hm
 have HI := am hi
 have HL := am hlt
 have HH := am H
 have HTM := am hTM
 have HSZ := am hsz
 have HNE := am (show g ≠ w.heap.size by omega)
 clear hm hi hlt H hTM hsz hg
 go_enter_defers Tryz.func43, Tryz.ntmps43
 go_wp2_with fail
 have hB0 := below_alloc (Below.refl w.heap.size w) (.cells #[.string ⟨#[]⟩] 9)
 have hG0 := blk_new w (.cells #[.string ⟨#[]⟩] 9)
 obtain ⟨mm, hmm⟩ := TabM.below HTM.out hB0
 refine (Tryz.strings_Split line ⟨#[32]⟩ mm _ HSZ.out hmm (by decide)).mono ?_
 rintro e w1 ⟨rfl, rfl⟩
 obtain ⟨ws, hws⟩ : ∃ ws, ws = splitS line := ⟨_, rfl⟩
 have hln := splitS_len line
 have hle := splitS_le line
 have hh := HH.out
 have hM := HM.out
 have hL := HL.out
 clear HH HM HL
 rw [← hws] at hh hM hL hln hle
 have HH := am hh
 have HM := am hM
 have HL := am hL
 have HLE := am (show ws.length < 4294967296 by have := HSZ.out; omega)
 rw [show Lib.splitB ⟨#[32]⟩ 0 (Lib.countB line ⟨#[32]⟩) line = ws from hws.symm, ← hln]
 have hpos : 1 ≤ ws.length := by omega
 obtain ⟨b, hb⟩ : ∃ b, b = (w.alloc (.cells #[.string ⟨#[]⟩] 9)).heap.size := ⟨_, rfl⟩
 have HGB := am (show w.heap.size < b by rw [hb]; exact blk_lt hG0)
 have HR := am (blk_new (w.alloc (.cells #[.string ⟨#[]⟩] 9)) (.cells (ws.map Value.string).toArray 9))
 have HG := am (blk_alloc hG0 (.cells (ws.map Value.string).toArray 9))
 have HB := am (below_alloc hB0 (.cells (ws.map Value.string).toArray 9))
 rw [← hb] at HR ⊢
 generalize (w.alloc (.cells #[.string ⟨#[]⟩] 9)).alloc (.cells (ws.map Value.string).toArray 9) = W1 at HR HG HB ⊢
 obtain ⟨x0, hx⟩ : ∃ x0, ws.head? = some x0 := by
  cases ws with
  | nil => simp at hpos
  | cons a l => exact ⟨a, rfl⟩
 have HX := am hx
 clear hh hM hL hln hle hws hB0 hG0 hmm hb hx
 have hp2 : (1 ≤ ws.length) = True := eq_true hpos
 have hp3 : ((1 : Int) ≤ (ws.length : Int)) = True := eq_true (by omega)
 have hp4 : ((ws.length : Int) < 1) = False := eq_false (by omega)
 clear hpos
 go_wp2_with fail
 refine wp_mono (Q := noP _) ?_ (noP_le _)
 have HR1 := am (blk_drew HR.out)
 have HG1 := am (blk_drew HG.out)
 have HB1 := am (below_drew1 HB.out)
 refine start_ (n := 8) (S := fun w' => True) (ds := [7]) #[F,F,F,F,F,F,F,F] (by kernel_rfl) rfl rfl trivial (fun hHeld => ?_)
 clear HR HG HB
 generalize W1.drew = wd at HR1 HG1 HB1 hHeld ⊢
 refine pz 0 (some 9) #[T,F,F,F,F,F,F,F] (by kernel_rfl) (h := ?_)
 refine pz 3 (some 12) #[T,F,F,T,F,F,F,F] (by kernel_rfl) (h := ?_)
 refine pz 4 (some 13) #[T,F,F,T,T,F,F,F] (by kernel_rfl) (h := ?_)
 refine pz 5 (some 14) #[T,F,F,T,T,T,F,F] (by kernel_rfl) (h := ?_)
 refine one_ (i := 1) (N := some 10) #[T,T,F,T,T,T,F,F] rfl rfl (by kernel_rfl) (by decide) (fun K hK => ?_)
 refine goes_ Tryz.func82 (by kernel_rfl) rfl #[.slice (some ⟨b, 0, none⟩) ws.length ws.length] (by rfl) rfl rfl (by (try simp only [List.map_toArray, List.map_cons, List.map_nil]); first | done | rfl) ?_
 with_reducible refine (commandFor_any ws b ws.length i0 t _ HR1.out (Nat.le_refl _) HLE.out x0 HX.out HI.out HM.out HL.out).mono ?_
 rintro e we ⟨rfl, hb⟩
 refine ⟨_, rfl, ?_⟩
 have HR2 := am (blk_below HR1.out hb)
 have HG2 := am (blk_below HG1.out hb)
 have HB2 := am (below_step HB1.out hb)
 clear HR1 HG1 HB1 hb
 refine hK.out _ _ trivial (fun hHeld => ?_)
 clear hK K
 refine norm_ (a' := ?_) ?_ ?_
 rotate_left
 ·show Act.put _ (some 10) _ = _
  simp only [Act.put, sA, sZ, sS, i64_w, i32_w]
  rfl
 refine one_ (i := 2) (N := some 11) #[T,T,T,T,T,T,F,F] rfl rfl (by kernel_rfl) (by decide) (fun K hK => ?_)
 refine value_ (w1 := ?_) (v := ?_) (by rfl) rfl ?_ ?_
 rotate_left 2
 ·go_simp
  constructor
  ·rfl
  ·rfl
 refine hK.out _ _ trivial (fun hHeld => ?_)
 clear hK K
 refine norm_ (a' := ?_) ?_ ?_
 rotate_left
 ·show Act.put _ (some 11) _ = _
  simp only [Act.put, sA, sZ, sS, i64_w, i32_w]
  rfl
 refine one_ (i := 6) (N := some 15) #[T,T,T,T,T,T,T,F] rfl rfl (by kernel_rfl) (by decide) (fun K hK => ?_)
 refine goesV_ hf hname hbody 11 rfl #[.pointer (some ⟨g, 0, none⟩), .slice (if ws.length = 1 then some ⟨b, 0, none⟩ else some ⟨b, 1, none⟩) (ws.length - 1) (ws.length - 1)] (by rfl) rfl rfl (by (try simp only [List.map_toArray, List.map_cons, List.map_nil]); first | done | rfl) ?_
 with_reducible refine (HH.out b _ HGB.out HR2.out HB2.out).mono ?_
 rintro e w2 ⟨rfl, hk, hq⟩
 refine ⟨_, rfl, ?_⟩
 have HG3 := am ((hk.1.2 w.heap.size (blk_lt HG2.out) HNE.out.symm (by simp)).trans HG2.out)
 have HK3 := am (Kb.trans (Kb.of_below HB2.out g) hk)
 have HQ3 := am hq
 clear HR2 HG2 HB2 hk hq
 refine hK.out _ _ trivial (fun hHeld => ?_)
 clear hK K
 refine norm_ (a' := ?_) ?_ ?_
 rotate_left
 ·show Act.put _ (some 15) _ = _
  simp only [Act.put, sA, sZ, sS, i64_w, i32_w]
  rfl
 clear hHeld
 have q0 : w2.cell? ⟨w.heap.size, 0, none⟩ = some (.string ⟨#[]⟩) := blk_cell HG3.out 0
 have qf := fun i => blk_frozen HG3.out i
 refine last_ (i := 7) (N := none) #[T,T,T,T,T,T,T,T] rfl rfl (by kernel_rfl) (by decide) (fun K hK => ?_)
 refine skip_ (w1 := ?_) (by rfl) rfl ?_ ?_
 rotate_left
 ·go_simp
  rfl
 refine hK.out _ _ ?_
 clear hK K
 refine done_ (by kernel_rfl) ?_
 refine noP_in ?_
 go_wp2_with fail
 all_goals
  refine leaves_cons (f := 80) (args := #[.pointer (some ⟨w.heap.size, 0, none⟩)]) (by simp) (by simp [go_sem]) ?_
  refine (line_idle ⟨w.heap.size, 0, none⟩ _).mono ?_
  rintro e u' w'' ⟨rfl, rfl, rfl⟩
  have q1 : (w2.setCell ⟨w.heap.size, 0, none⟩ (.string out)).cell? ⟨w.heap.size, 0, none⟩ = some (.string out) := (blk_cell (blk_put (cs' := #[.string out]) HG3.out 0 (.string out) rfl) 0).trans rfl
  refine ⟨.string out, ?_, rfl, w2, HQ3.out, HK3.out, HG3.out, rfl⟩
  simp [results, Tryz.results43, go_sem, q1]
/-- The session at block g: its melody, no entries. -/
def Ses (base : Nat) (W : World) (g : Nat) (m : List S74) : Prop := ∃ A c A1 c1, W.heap[g]? = some (.cells #[.slice A m.length c, .slice A1 0 c1] 58 (0, 0)) ∧ base ≤ g ∧ (m ≠ [] → Kd.R k74 74 W base (fun _ => True) (.slice A m.length c) m)
theorem Ses.below {base : Nat} {W W1 : World} {g : Nat} {m : List S74} (h : Ses base W g m) (hb : Below W.heap.size W W1) : Ses base W1 g m := by
 obtain ⟨A, c, A1, c1, h1, h2, h3⟩ := h
 exact ⟨A, c, A1, c1, blk_below h1 hb, h2, fun hm => Kd.R_below (h3 hm) hb⟩
theorem Ses.far {base : Nat} {W : World} {g go : Nat} {m : List S74} {cs : Array Value} (h : Ses base W g m) (hb : W.heap[go]? = some (.cells cs 9 (0, 0))) (u : Value) : Ses base (W.setCell ⟨go, 0, none⟩ u) g m := by
 obtain ⟨A, c, A1, c1, h1, h2, h3⟩ := h
 exact ⟨A, c, A1, c1, blk_far h1 (blk_ne h1 hb (by decide)) u, h2, fun hm => Kd.R_mono (Kd.R_far (Kd.R_types (h3 hm) hb (by decide)) (p := ⟨go, 0, none⟩) (fun _ hk => hk.2) u) (fun _ _ => trivial)⟩
theorem Ses.lt {base : Nat} {W : World} {g : Nat} {m : List S74} (h : Ses base W g m) : g < W.heap.size := by
 obtain ⟨A, c, A1, c1, h1, h2, h3⟩ := h
 exact blk_lt h1
theorem Ses.ge {base : Nat} {W : World} {g : Nat} {m : List S74} (h : Ses base W g m) : base ≤ g := by
 obtain ⟨A, c, A1, c1, h1, h2, h3⟩ := h
 exact h2
/-- What a line does: for each session that fits. -/
def LineOk (Tb : World → Prop) (m : List S74) (line out : ByteArray) (m' : List S74) : Prop :=
 ∀ (base g : Nat) (w : World), TabM w → Tb w → Ses base w g m → base ≤ w.heap.size → Calls Tryz.prog 43 #[.pointer (some ⟨g, 0, none⟩), .string line] w fun e w' => e = .returned (.string out) ∧ Kb w w' g ∧ Ses base w' g m'
/-- A line by its command's own contract. -/
theorem line_by {Tb : World → Prop} {m : List S74} {line out : ByteArray} {m' : List S74} (i0 : Nat) (t : ByteArray × Int × Nat) (hTb : ∀ w w1, Below w.heap.size w w1 → Tb w → Tb w1) (hsz : line.size < 4294967281) (hi : cmdT[i0]? = some t) (hix : cmdT.findIdx? (cmdM (splitS line)) = some i0)
  {fn : Func} (hf : Tryz.prog.funcs[t.2.2]? = some fn) (hname : (fn.name == "runtime.NumGoroutine") = false) (hbody : fn.body.isSome = true)
  (H : ∀ (base g b : Nat) (w1 : World), TabM w1 → Tb w1 → Ses base w1 g m → base ≤ w1.heap.size → g < b → w1.heap[b]? = some (.cells ((splitS line).map Value.string).toArray 9 (0, 0)) → Calls Tryz.prog t.2.2 #[.pointer (some ⟨g, 0, none⟩), .slice (if (splitS line).length = 1 then some ⟨b, 0, none⟩ else some ⟨b, 1, none⟩) ((splitS line).length - 1) ((splitS line).length - 1)] w1 fun e w2 => e = .returned (.string out) ∧ Kb w1 w2 g ∧ Ses base w2 g m') : LineOk Tb m line out m' := by
 intro base g w hTM hTB hs hbw
 obtain ⟨hlt, hm, hn⟩ := List.findIdx?_eq_some_iff_getElem.1 hix
 have hm' : cmdM (splitS line) t = true := by
  have e := List.getElem?_eq_getElem hlt
  rw [hi] at e
  rw [Option.some.inj e]
  exact hm
 refine (runLine_any g line out i0 t w (fun w2 => Ses base w2 g m') hTM hs.lt hsz hi hm' (fun j u hj hu => ?_) hf hname hbody (fun b w1 h1 h2 h3 => ?_)).mono ?_
 ·have e := List.getElem?_eq_getElem (show j < cmdT.length by omega)
  rw [hu] at e
  rw [Option.some.inj e]
  exact Bool.eq_false_iff.mpr (hn j hj)
 ·exact H base g b w1 (hTM.below h3) (hTb w w1 h3 hTB) (hs.below h3) (Nat.le_trans hbw h3.size) (Nat.lt_of_lt_of_le (Nat.lt_trans hs.lt (Nat.lt_succ_self _)) h1) h2
 ·rintro e w' ⟨rfl, w2, hq, hk, hb, rfl⟩
  exact ⟨rfl, hk.set_new (Nat.le_refl _) _, hq.far hb _⟩

theorem cut_len (t : List UInt8) : (Lib.cut t [10]).2.1.length ≤ t.length := by
 unfold Lib.cut
 split
 ·simp only [List.length_drop]
  omega
 ·simp
def execGo (step : List S74 → ByteArray → Option (List S74 × ByteArray)) : Nat → List S74 → ByteArray → List UInt8 → Option (List S74 × ByteArray)
 | 0, _, _, _ => none
 | k + 1, m, out, t => if (Lib.cut t [10]).2.2 = true then (step m ⟨(Lib.cut t [10]).1.toArray⟩).bind fun p => if out.size + p.2.size < 1000000 then execGo step k p.1 (out ++ (p.2 ++ (⟨#[10]⟩ : ByteArray))) (Lib.cut t [10]).2.1 else none else some (m, out)
def execTxt (out : ByteArray) (n : Nat) : ByteArray := ((((out ++ (⟨#[116, 111, 110, 101, 115, 32]⟩ : ByteArray)) ++ decS n) ++ (⟨#[32, 101, 110, 116, 114, 105, 101, 115, 32]⟩ : ByteArray)) ++ decS 0) ++ (⟨#[10]⟩ : ByteArray)
theorem decS_size (n : Nat) : (decS n).size ≤ 2 := by
 unfold decS
 split
 ·exact (by decide : (1 : Nat) ≤ 2)
 ·exact (by decide : (2 : Nat) ≤ 2)
theorem itoa_dec (n : Nat) (h : n < 25) : strconv_Itoa_44.f (n : Int) = some (decS n) := by
 unfold strconv_Itoa_44.f
 rw [if_pos (by omega), if_pos (by omega), Int.toNat_natCast]
theorem itoa_zero : strconv_Itoa_44.f 0 = some (decS 0) := itoa_dec 0 (by decide)
set_option maxHeartbeats 8000000 in
set_option maxRecDepth 100000 in
theorem exec_any (Tb : World → Prop) (hTb : ∀ w w1, Below w.heap.size w w1 → Tb w → Tb w1) (step : List S74 → ByteArray → Option (List S74 × ByteArray)) (hok : ∀ m line m' o, step m line = some (m', o) → LineOk Tb m line o m')
  (k : Nat) (text : ByteArray) (M : List S74) (OUT : ByteArray) (h : execGo step k [] ⟨#[]⟩ text.data.toList = some (M, OUT)) (hs : text.size ≤ 400) (hm : M.length < 25) (ho : OUT.size < 2000000) (w : World) (hTM : TabM w) (hTB : Tb w) :
  Calls Tryz.prog 12 #[.string text] w fun e w' => e = .returned (.string (execTxt OUT M.length)) ∧ Below w.heap.size w w' := by
 have HTb := am hTb
 have HOK := am hok
 have HE := am h
 have HS := am hs
 have HM := am hm
 have HO := am ho
 have HTM := am hTM
 have HTB := am hTB
 have g0 : decide ((text.size : Int) > 400) = false := decide_eq_false (by omega)
 have g1 : ((400 : Int) < (text.size : Int)) = False := eq_false (by omega)
 have g2 : (400 < text.size) = False := eq_false (by omega)
 clear hTb hok h hs hm ho hTM hTB
 go_enter Tryz.func12, Tryz.ntmps12
 go_wp2_with fail
 have hB0 := below_alloc (Below.refl w.heap.size w) (.cells #[.slice none 0 0, .slice none 0 0] 58)
 have hG0 := blk_new w (.cells #[.slice none 0 0, .slice none 0 0] 58)
 obtain ⟨mm, hmm⟩ := TabM.below HTM.out hB0
 refine (Tryz.strings_Cut text ⟨#[10]⟩ mm _ (by have := HS.out; omega) hmm).mono ?_
 rintro e w1 ⟨rfl, nd, rfl⟩
 obtain ⟨tx, htx⟩ : ∃ tx, tx = text.data.toList := ⟨_, rfl⟩
 have hlt : tx.length ≤ 400 := by
  have h1 := HS.out
  have h2 : text.size = tx.length := by rw [htx, Array.length_toList]; rfl
  omega
 have HE2 := am (show execGo step k [] ⟨#[]⟩ tx = some (M, OUT) by rw [htx]; exact HE.out)
 have HLT := am hlt
 rw [← htx]
 rw [show (⟨#[10]⟩ : ByteArray).data.toList = [10] from rfl]
 obtain ⟨gs, hgs⟩ : ∃ gs, gs = w.heap.size := ⟨_, rfl⟩
 have HGS := am hgs
 have HB1 := am (pw_below_drewN hB0 nd)
 have HS1 := am (show Ses w.heap.size ((w.alloc (.cells #[.slice none 0 0, .slice none 0 0] 58)).drewN nd) gs [] from ⟨none, 0, none, 0, by rw [hgs]; exact blk_drewN hG0 nd, by omega, fun h => absurd rfl h⟩)
 rw [← hgs] at ⊢
 generalize (w.alloc (.cells #[.slice none 0 0, .slice none 0 0] 58)).drewN nd = W1 at HB1 HS1 ⊢
 clear hB0 hG0 hmm htx hlt hgs HE
 go_wp2_with fail
 go_loopg [4, 5, 6, 7] k (fun kq v4 v5 v6 v7 w' => ∃ (m : List S74) (o : ByteArray) (t : List UInt8), v4 = .string o ∧ v5 = .string ⟨(Lib.cut t [10]).1.toArray⟩ ∧ v6 = .string ⟨(Lib.cut t [10]).2.1.toArray⟩ ∧ v7 = .bool (Lib.cut t [10]).2.2 ∧ Aside0 (execGo step kq m o t = some (M, OUT)) ∧ Aside0 (t.length ≤ 400) ∧ Aside0 (Ses w.heap.size w' gs m) ∧ Aside0 (Below w.heap.size w w'))
 case atStart => exact ⟨[], ⟨#[]⟩, tx, rfl, rfl, rfl, rfl, HE2, HLT, HS1, HB1⟩
 case round =>
  obtain ⟨m, o, t, rfl, rfl, rfl, rfl, HX, HL, HS2, HB⟩ := hrel
  clear HE2 HLT HS1 HB1
  cases gk with
  | zero => exact absurd HX.out (by simp [execGo])
  | succ k1 =>
   have hx := HX.out
   rw [execGo] at hx
   have hcl := cut_len t
   have hl := HL.out
   obtain ⟨c, hc⟩ : ∃ c, c = Lib.cut t [10] := ⟨_, rfl⟩
   rw [← hc] at hx hcl ⊢
   obtain ⟨c1, c2, c3⟩ := c
   dsimp only at hx hcl ⊢
   cases c3 with
   | true =>
    rw [if_pos rfl] at hx
    obtain ⟨⟨m2, o2⟩, hp, hx⟩ := Option.bind_eq_some_iff.1 hx
    dsimp only at hx
    by_cases hsz : o.size + o2.size < 1000000
    ·rw [if_pos hsz] at hx
     have HX2 := am hx
     have HP := am hp
     have HC2 := am (show c2.length ≤ 400 by omega)
     have s1 : (9223372036854775807 < o2.size + 1) = False := eq_false (by omega)
     have s2 : (9223372036854775807 < o.size + (o2.size + 1)) = False := eq_false (by omega)
     clear hx hp hc hcl hl hsz HX
     go_wp2_with fail
     refine (HOK.out m ⟨c1.toArray⟩ m2 o2 HP.out w.heap.size gs wr (TabM.below HTM.out HB.out) (HTb.out _ _ HB.out HTB.out) HS2.out HB.out.size).mono ?_
     rintro e w2 ⟨rfl, hk, hs⟩
     have HB3 := am (hk.below HB.out (by have := HGS.out; omega) HB.out.size)
     have HS3 := am hs
     clear hk hs HS2 HB
     go_wp2_with fail
     obtain ⟨mm, hmm⟩ := TabM.below HTM.out HB3.out
     refine (Tryz.strings_Cut ⟨c2.toArray⟩ ⟨#[10]⟩ mm _ (by have := HC2.out; show c2.toArray.size < _; rw [List.size_toArray]; omega) hmm).mono ?_
     rintro e w3 ⟨rfl, nd, rfl⟩
     rw [show (⟨#[10]⟩ : ByteArray).data.toList = [10] from rfl, show (⟨c2.toArray⟩ : ByteArray).data.toList = c2 from rfl]
     have HB4 := am (pw_below_drewN HB3.out nd)
     have HS4 := am (HS3.out.below (pw_below_drewN (Below.refl _ _) nd))
     clear hmm HB3 HS3
     generalize w2.drewN nd = W4 at HB4 HS4 ⊢
     go_wp2_with fail
     go_roundg k1
     case measure => omega
     case rel => exact ⟨m2, _, c2, rfl, rfl, rfl, rfl, HX2, HC2, HS4, HB4⟩
    ·rw [if_neg hsz] at hx
     exact absurd hx (by simp)
   | false =>
    rw [if_neg (by decide)] at hx
    obtain ⟨rfl, rfl⟩ : m = M ∧ o = OUT := by simpa using hx
    clear hx hc hcl hl HX
    obtain ⟨A, ca, A1, c1a, hb1, hb2, hb3⟩ := HS2.out
    have HBL := am hb1
    clear hb1 hb2 hb3 HS2
    obtain ⟨d, hd⟩ : ∃ d, d = decS m.length := ⟨_, rfl⟩
    have hds := decS_size m.length
    have hd0 := decS_size 0
    rw [← hd] at hds
    obtain ⟨z, hz⟩ : ∃ z, z = decS 0 := ⟨_, rfl⟩
    rw [← hz] at hd0
    have HD := am hd
    have HZ := am hz
    have hosz := HO.out
    have s1 : (9223372036854775807 < o.size + 6) = False := eq_false (by omega)
    have s2 : (9223372036854775807 < o.size + 6 + d.size) = False := eq_false (by omega)
    have s3 : (9223372036854775807 < o.size + 6 + d.size + 9) = False := eq_false (by omega)
    have s4 : (9223372036854775807 < o.size + 6 + d.size + 9 + z.size) = False := eq_false (by omega)
    have s5 : (9223372036854775807 < o.size + 6 + d.size + 9 + z.size + 1) = False := eq_false (by omega)
    clear hd hz hds hd0 hosz
    go_wp2_with fail
    have HBL1 := am (blk_drew HBL.out)
    have HB1 := am (below_drew1 HB.out)
    refine start_ (n := 19) (S := fun w' => w'.cell? ⟨gs, 0, none⟩ = some (.slice A m.length ca) ∧ w'.cell? ⟨gs, 1, none⟩ = some (.slice A1 0 c1a)) (ds := []) #[F,F,F,F,F,F,F,F,F,F,F,F,F,F,F,F,F,F,F] (by kernel_rfl) rfl rfl ⟨(blk_cell HBL1.out 0).trans rfl, (blk_cell HBL1.out 1).trans rfl⟩ (fun hHeld => ?_)
    clear HBL HB
    generalize wr.drew = wd at HBL1 HB1 hHeld ⊢
    refine pz 0 (some 32) #[T,F,F,F,F,F,F,F,F,F,F,F,F,F,F,F,F,F,F] (by kernel_rfl) (h := ?_)
    refine pz 1 (some 33) #[T,T,F,F,F,F,F,F,F,F,F,F,F,F,F,F,F,F,F] (by kernel_rfl) (h := ?_)
    refine pz 2 (some 34) #[T,T,T,F,F,F,F,F,F,F,F,F,F,F,F,F,F,F,F] (by kernel_rfl) (h := ?_)
    refine pz 3 (some 35) #[T,T,T,T,F,F,F,F,F,F,F,F,F,F,F,F,F,F,F] (by kernel_rfl) (h := ?_)
    refine pz 4 (some 36) #[T,T,T,T,T,F,F,F,F,F,F,F,F,F,F,F,F,F,F] (by kernel_rfl) (h := ?_)
    refine pz 10 (some 42) #[T,T,T,T,T,F,F,F,F,F,T,F,F,F,F,F,F,F,F] (by kernel_rfl) (h := ?_)
    refine pz 11 (some 43) #[T,T,T,T,T,F,F,F,F,F,T,T,F,F,F,F,F,F,F] (by kernel_rfl) (h := ?_)
    refine pz 12 (some 44) #[T,T,T,T,T,F,F,F,F,F,T,T,T,F,F,F,F,F,F] (by kernel_rfl) (h := ?_)
    refine tz hHeld 5 (some 37) #[T,T,T,T,T,T,F,F,F,F,T,T,T,F,F,F,F,F,F] (by kernel_rfl) (h := ?_)
    refine tz hHeld 13 (some 45) #[T,T,T,T,T,T,F,F,F,F,T,T,T,T,F,F,F,F,F] (by kernel_rfl) (h := ?_)
    refine pz 6 (some 38) #[T,T,T,T,T,T,T,F,F,F,T,T,T,T,F,F,F,F,F] (by kernel_rfl) (h := ?_)
    refine pz 14 (some 46) #[T,T,T,T,T,T,T,F,F,F,T,T,T,T,T,F,F,F,F] (by kernel_rfl) (h := ?_)
    refine one_ (i := 7) (N := some 39) #[T,T,T,T,T,T,T,T,F,F,T,T,T,T,T,F,F,F,F] rfl rfl (by kernel_rfl) (by decide) (fun K hK => ?_)
    refine goes_ Tryz.func44 (by kernel_rfl) rfl #[.int .i64 (m.length : Int)] (by rfl) rfl rfl (by (try simp only [List.map_toArray, List.map_cons, List.map_nil]); first | done | rfl) ?_
    with_reducible refine (strconv_Itoa_44.calls (m.length : Int) d _ (by rw [HD.out]; exact itoa_dec _ HM.out)).mono ?_
    rintro e we ⟨rfl, nd, rfl⟩
    refine ⟨_, rfl, ?_⟩
    refine hK.out _ _ ⟨hHeld.1, hHeld.2⟩ (fun hHeld => ?_)
    clear hK K
    refine norm_ (a' := ?_) ?_ ?_
    rotate_left
    ·show Act.put _ (some 39) _ = _
     simp only [Act.put, sA, sZ, sS, i64_w, i32_w]
     rfl
    have HB2 := am (pw_below_drewN HB1.out nd)
    clear HB1
    generalize wd.drewN nd = wd2 at HB2 hHeld ⊢
    refine pz 8 (some 40) #[T,T,T,T,T,T,T,T,T,F,T,T,T,T,T,F,F,F,F] (by kernel_rfl) (h := ?_)
    refine pz 9 (some 41) #[T,T,T,T,T,T,T,T,T,T,T,T,T,T,T,F,F,F,F] (by kernel_rfl) (h := ?_)
    refine one_ (i := 15) (N := some 47) #[T,T,T,T,T,T,T,T,T,T,T,T,T,T,T,T,F,F,F] rfl rfl (by kernel_rfl) (by decide) (fun K hK => ?_)
    refine goes_ Tryz.func44 (by kernel_rfl) rfl #[.int .i64 0] (by rfl) rfl rfl (by (try simp only [List.map_toArray, List.map_cons, List.map_nil]); first | done | rfl) ?_
    with_reducible refine (strconv_Itoa_44.calls 0 z _ (by rw [HZ.out]; exact itoa_zero)).mono ?_
    rintro e we ⟨rfl, nd, rfl⟩
    refine ⟨_, rfl, ?_⟩
    refine hK.out _ _ ⟨hHeld.1, hHeld.2⟩ (fun hHeld => ?_)
    clear hK K
    refine norm_ (a' := ?_) ?_ ?_
    rotate_left
    ·show Act.put _ (some 47) _ = _
     simp only [Act.put, sA, sZ, sS, i64_w, i32_w]
     rfl
    have HB1 := am (pw_below_drewN HB2.out nd)
    clear HB2
    generalize wd2.drewN nd = wd3 at HB1 hHeld ⊢
    refine pz 16 (some 48) #[T,T,T,T,T,T,T,T,T,T,T,T,T,T,T,T,T,F,F] (by kernel_rfl) (h := ?_)
    refine pz 17 (some 49) #[T,T,T,T,T,T,T,T,T,T,T,T,T,T,T,T,T,T,F] (by kernel_rfl) (h := ?_)
    refine pz 18 (some 2) #[T,T,T,T,T,T,T,T,T,T,T,T,T,T,T,T,T,T,T] (by kernel_rfl) (h := ?_)
    refine done_ (by kernel_rfl) ?_
    clear hHeld
    go_wp2_with fail
    go_ret
    exact ⟨by rw [show execTxt o m.length = ((((o ++ (⟨#[116, 111, 110, 101, 115, 32]⟩ : ByteArray)) ++ d) ++ (⟨#[32, 101, 110, 116, 114, 105, 101, 115, 32]⟩ : ByteArray)) ++ z) ++ (⟨#[10]⟩ : ByteArray) by rw [HD.out, HZ.out]; rfl]; rfl, HB1.out⟩

theorem words_C {W : World} {b : Nat} {ws : List ByteArray} (h : W.heap[b]? = some (.cells (ws.map Value.string).toArray 9 (0, 0))) (hl : ws.length < 4294967296) : Kd.C Kd.string W (some ⟨b, 0, none⟩) ws.length ws := by
 refine ⟨rfl, by omega, fun hn => ⟨_, rfl, fun j p hj => ⟨[.string p], rfl, rfl, fun i u hu => ?_⟩⟩⟩
 have hi : i < 1 := (List.getElem?_eq_some_iff.1 hu).1
 obtain rfl : i = 0 := by omega
 obtain rfl : Value.string p = u := by simpa using hu
 show W.cell? (Addr.add ⟨b, 0, none⟩ (j * 1 + 0)) = _
 have e : Addr.add ⟨b, 0, none⟩ (j * 1 + 0) = (⟨b, j, none⟩ : Addr) := by
  rw [show j * 1 + 0 = j by omega]
  unfold Addr.add
  by_cases hj0 : j = 0
  ·subst hj0; simp
  ·simp [hj0]
 rw [e, blk_cell h j]
 simp [hj]
theorem words_tail {W : World} {b : Nat} {ws : List ByteArray} (h : W.heap[b]? = some (.cells (ws.map Value.string).toArray 9 (0, 0))) (hl : ws.length < 4294967296) (h1 : 1 ≤ ws.length) : Kd.C Kd.string W (if ws.length = 1 then some ⟨b, 0, none⟩ else some ⟨b, 1, none⟩) (ws.length - 1) ws.tail := by
 have := Kd.C_drop (k := Kd.string) (words_C h hl) h1 (Nat.le_refl _)
 rw [List.drop_one, List.length_tail] at this
 exact this
theorem ses_is {base : Nat} {W : World} {g : Nat} (h : Ses base W g []) : IsS58 { W with heap := #[] } W g [] [] := by
 obtain ⟨A, c, A1, c1, h1, h2, h3⟩ := h
 exact ⟨A, c, A1, c1, h1, Nat.zero_le _, ⟨rfl, by simp, fun h => absurd h (Nat.lt_irrefl 0)⟩, ⟨rfl, by simp, fun h => absurd h (Nat.lt_irrefl 0)⟩⟩
theorem is_ses {base : Nat} {W0 W : World} {g : Nat} (h : IsS58 W0 W g [] []) (hb : base ≤ g) : Ses base W g [] := by
 obtain ⟨A, c, A1, c1, h1, h2, h3⟩ := h
 exact ⟨A, c, A1, c1, h1, hb, fun h => absurd rfl h⟩
def stepO (n : Nat) (m : List S74) (line : ByteArray) : Option (List S74 × ByteArray) :=
 if line.size < 4294967281 ∧ cmdT.findIdx? (cmdM (splitS line)) = some 11 ∧ m = [] then (impl_session_runOrdo.f n [] [] (splitS line).tail).bind fun o => some ([], o) else none
theorem stepO_ok {n : Nat} {m m' : List S74} {line out : ByteArray} (h : stepO n m line = some (m', out)) : LineOk (fun _ => True) m line out m' := by
 unfold stepO at h
 split at h
 ·rename_i hc
  obtain ⟨hsz, hix, rfl⟩ := hc
  obtain ⟨o, ho, h⟩ := Option.bind_eq_some_iff.1 h
  obtain ⟨rfl, rfl⟩ : [] = m' ∧ o = out := by simpa using h
  obtain ⟨hlt, hm, hn⟩ := List.findIdx?_eq_some_iff_getElem.1 hix
  have h3 : (splitS line).length = 3 := by
   have hm' : cmdM (splitS line) cmdT[11] = true := hm
   unfold cmdM at hm'
   simp [cmdT] at hm'
   omega
  have hl9 := splitS_le line
  refine line_by 11 cmdT[11] (fun _ _ _ h => h) hsz rfl hix (fn := Tryz.f154) Tryz.func154 (by kernel_rfl) rfl (fun base g b w1 _ _ hs hbw hgb hr => ?_)
  have ht := words_tail hr (by omega) (by omega)
  have hlt2 : (splitS line).tail.length = (splitS line).length - 1 := List.length_tail
  rw [← hlt2] at ht ⊢
  refine (impl_session_runOrdo.calls n g [] [] _ _ (splitS line).tail o { w1 with heap := #[] } w1 (ses_is hs) ⟨rfl, rfl, rfl, Nat.zero_le _, fun k hk => absurd hk (Nat.not_lt_zero k)⟩ ht (Nat.le_refl _) (fun ad ha _ => ?_) ho).mono ?_
  ·split at ha
   ·obtain rfl := Option.some.inj ha
    exact Nat.ne_of_gt hgb
   ·obtain rfl := Option.some.inj ha
    exact Nat.ne_of_gt hgb
  ·rintro e w2 ⟨rfl, hi, hb, hk⟩
   exact ⟨rfl, ⟨hk, ⟨hb.os, hb.tape, hb.output, hk.1, fun k hk => absurd hk (Nat.not_lt_zero k)⟩⟩, is_ses hi hs.ge⟩
 ·exact absurd h (by simp)
def impl_Execute.f (n : Nat) (a0 : ByteArray) : Option ByteArray := if a0.size ≤ 400 then (execGo (stepO n) n [] ⟨#[]⟩ a0.data.toList).bind fun p => if p.1.length < 25 ∧ p.2.size < 2000000 then some (execTxt p.2 p.1.length) else none else none
theorem impl_Execute.calls (n : Nat) (a0 : ByteArray) (r : ByteArray) (w : World) (hTM : TabM w) (h : impl_Execute.f n a0 = some r) :
  Calls Tryz.prog 12 #[.string a0] w fun e w' => e = .returned (.string r) ∧ Below w.heap.size w w' := by
 unfold impl_Execute.f at h
 split at h
 ·rename_i hs
  obtain ⟨⟨M, OUT⟩, he, h⟩ := Option.bind_eq_some_iff.1 h
  dsimp only at h
  split at h
  ·rename_i hc
   obtain rfl := Option.some.inj h
   exact exec_any (fun _ => True) (fun _ _ _ h => h) (stepO n) (fun _ _ _ _ h => stepO_ok h) n a0 M OUT he hs hc.1 hc.2 w hTM trivial
  ·exact absurd h (by simp)
 ·exact absurd h (by simp)


/-- A state of type 105 at block g of W; what its slices lead to came in by w0. -/
def IsS105 (w0 W : World) (g : Nat) (f0 : List Int) (f1 : Int) : Prop := ∃ A0 c0, W.heap[g]? = some (.cells #[.slice A0 f0.length c0, .int .i64 f1] 105 (0, 0)) ∧ w0.heap.size ≤ g ∧ Kd.C (Kd.int .u8) w0 A0 f0.length f0
theorem IsS105.grown {w0 W : World} {g : Nat} {f0 : List Int} {f1 : Int} {W1 : World} {row : Option Nat} (h : IsS105 w0 W g f0 f1) (hw : W.grownBy W1 row) (hne : some g ≠ row) : IsS105 w0 W1 g f0 f1 := by
 obtain ⟨A0, c0, hb, hg, hr0⟩ := h
 exact ⟨A0, c0, blk_grown hb hw hne, hg, hr0⟩
theorem IsS105.fresh {w0 W : World} {g : Nat} {f0 : List Int} {f1 : Int} (h : IsS105 w0 W g f0 f1) : ∀ k, W.heap.size ≤ k → k ≠ g := by
 obtain ⟨A0, c0, hb, hg, hr0⟩ := h
 exact Kd.freshB hb
theorem IsS105.below {w0 W : World} {g : Nat} {f0 : List Int} {f1 : Int} {W1 : World} (h : IsS105 w0 W g f0 f1) (hw : Below W.heap.size W W1) : IsS105 w0 W1 g f0 f1 := h.grown (grown_of_below hw none) (by simp)
theorem IsS105.alloc {w0 W : World} {g : Nat} {f0 : List Int} {f1 : Int} (h : IsS105 w0 W g f0 f1) (o : Obj) : IsS105 w0 (W.alloc o) g f0 f1 := h.below (below_alloc (Below.refl _ _) o)
theorem IsS105.drewN {w0 W : World} {g : Nat} {f0 : List Int} {f1 : Int} (h : IsS105 w0 W g f0 f1) (m : Nat) : IsS105 w0 (W.drewN m) g f0 f1 := h
theorem IsS105.drew {w0 W : World} {g : Nat} {f0 : List Int} {f1 : Int} (h : IsS105 w0 W g f0 f1) : IsS105 w0 W.drew g f0 f1 := h
theorem IsS105.apart {w0 W : World} {g : Nat} {f0 : List Int} {f1 : Int} {α : Type} {d : Kd α} {e : Nat} {base : Nat} {ok : Nat → Prop} {v : Value} {xs : List α} (h : IsS105 w0 W g f0 f1) (ho : d.R e W base ok v xs) (ht : ∀ q, q ∈ e :: d.E → q ≠ 105) : d.R e W base (fun k => ok k ∧ k ≠ g) v xs := by
 obtain ⟨A0, c0, hb, hg, hr0⟩ := h
 exact Kd.R_types ho hb ht
theorem IsS105.lt {w0 W : World} {g : Nat} {f0 : List Int} {f1 : Int} (h : IsS105 w0 W g f0 f1) : g < W.heap.size := by
 obtain ⟨A0, c0, hb, hg, hr0⟩ := h
 exact blk_lt hb
theorem IsS105.ge {w0 W : World} {g : Nat} {f0 : List Int} {f1 : Int} (h : IsS105 w0 W g f0 f1) : w0.heap.size ≤ g := by
 obtain ⟨A0, c0, hb, hg, hr0⟩ := h
 exact hg
theorem IsS105.far {w0 W : World} {g : Nat} {f0 : List Int} {f1 : Int} {p : Addr} (h : IsS105 w0 W g f0 f1) (hne : g ≠ p.block) (u : Value) : IsS105 w0 (W.setCell p u) g f0 f1 := by
 obtain ⟨A0, c0, hb, hg, hr0⟩ := h
 exact ⟨A0, c0, blk_far hb hne u, hg, hr0⟩
theorem cellS105_0 {W : World} {g : Nat} {A0 : Option Addr} {c0 : Nat} {f0 : List Int} {f1 : Int} (h : W.heap[g]? = some (.cells #[.slice A0 f0.length c0, .int .i64 f1] 105 (0, 0))) : W.cell? ⟨g, 0, none⟩ = some (.slice A0 f0.length c0) := (blk_cell h 0).trans rfl
theorem cellS105_1 {W : World} {g : Nat} {A0 : Option Addr} {c0 : Nat} {f0 : List Int} {f1 : Int} (h : W.heap[g]? = some (.cells #[.slice A0 f0.length c0, .int .i64 f1] 105 (0, 0))) : W.cell? ⟨g, 1, none⟩ = some (.int .i64 f1) := (blk_cell h 1).trans rfl
theorem IsS105.set_1 {w0 W : World} {g : Nat} {f0 : List Int} {f1 : Int} (h : IsS105 w0 W g f0 f1) (x : Int) : IsS105 w0 (W.setCell ⟨g, 1, none⟩ (.int .i64 x)) g f0 x := by
 obtain ⟨A0, c0, hb, hg, hr0⟩ := h
 exact ⟨A0, c0, by simpa using blk_set hb 1 (.int .i64 x), hg, hr0⟩
/-! ### spec_l6Open: function 36 -/
def spec_l6Open.f (l0 : List Int) : Option (List Int × Int) := if (l0.length : Int) > 2000 then (if 2000 ≤ (l0.length : Int) then (some (l0.take 2000, 0)) else (none)) else (some (l0, 0))
set_option maxHeartbeats 8000000 in
set_option maxRecDepth 100000 in
theorem spec_l6Open.calls (A0 : Option Addr) (c0 : Nat) (l0 : List Int) (r1 : List Int) (r2 : Int) (w0 w : World) (hB : Below w0.heap.size w0 w) (hr0 : Kd.C (Kd.int .u8) w0 A0 l0.length l0) (hc0 : l0.length ≤ c0) (h : spec_l6Open.f l0 = some (r1, r2)) :
  Calls Tryz.prog 36 #[.slice A0 l0.length c0] w fun e w' => ∃ g_ : Nat, e = .returned (.pointer (some ⟨g_, 0, none⟩)) ∧ IsS105 w0 w' g_ r1 r2 ∧ Below w0.heap.size w0 w' ∧ Below w.heap.size w w' := by
 have hu105 := Tryz.underlying105
 have HR0 := am hr0
 have HC0 := am hc0
 clear hr0 hc0
 have HBW := am (Below.refl w.heap.size w)
 have HW0 := am hB.size
 have HB := am hB
 clear hB
 have H : (if (l0.length : Int) > 2000 then (if 2000 ≤ (l0.length : Int) then (some (l0.take 2000, 0)) else (none)) else (some (l0, 0))) = some (r1, r2) := h
 clear h
 by_cases c2 : (l0.length : Int) > 2000
 ·rw [if_pos c2] at H
  have c2b0 : decide (2000 < (l0.length : Int)) = true := decide_eq_true c2
  have c2b1 : decide (2000 < l0.length) = true := decide_eq_true (by omega)
  clear c2
  by_cases c3 : 2000 ≤ (l0.length : Int)
  ·rw [if_pos c3] at H
   have c3b0 := eq_true c3
   have c3b1 : decide (2000 ≤ (l0.length : Int)) = true := decide_eq_true c3
   clear c3
   simp only [Option.some.injEq, Prod.mk.injEq] at H
   obtain ⟨rfl, rfl⟩ := H
   obtain ⟨i04, hi04, _, hsz4, _⟩ := info_parts info5
   obtain ⟨hcut4, hA4, hC4⟩ := print_take_of (P := Tryz.prog) (Value.int .u8) 0 22 5 .i64 Tryz.underlying22 hi04 hsz4 A0 c0 l0 2000 (by omega) (od) HC0.out
   have HR156 := am (Kd.C_of_reads (h1 := fun _ => rfl) (hA4 _ (Kd.reads_of_C HR0.out)))
   have HC156 := am hC4
   clear hA4 hC4 hi04 hsz4
   go_enter Tryz.func36, Tryz.ntmps36
   go_wp2_with (first | ((with_reducible refine gate_dst (N := 10) rfl ?_); refine box_event ?hg (N := 10) ?hd (cs := #[.slice A0 (l0.take 2000).length c0, .int .i64 0]) (t := 105) ?hr ?_; (case hd => rfl); (case hg => rfl); (case hr => first | (go_simp; done) | (go_simp; rfl)); intro gb157 hg w5 hbox hb; have n0_ := am (below_step HBW.out hb); have n1_ := am (below_step (bu HB.out) hb); have n2_ := am (hbox); have n3_ := am ((by rw [hg]; exact (below_size (bu HBW.out)) : w.heap.size ≤ gb157)); have n4_ := am ((Nat.le_trans HW0.out (by rw [hg]; exact (below_size (bu HBW.out)) : w.heap.size ≤ gb157) : w0.heap.size ≤ gb157)); clear HBW; clear HB; have HBW := n0_; have HB := n1_; have BK157 := n2_; have GW157 := n3_; have GE157 := n4_; clear n0_ n1_ n2_ n3_ n4_; clear hb hbox hg))
   go_ret
   exact ⟨_, rfl, (show IsS105 w0 _ gb157 (l0.take 2000) 0 from ⟨_, _, gu BK157.out, GE157.out, HR156.out⟩), bu HB.out, by repeat (first | (with_reducible first | exact HBW.out | apply below_alloc | apply pw_below_drewN | apply below_drew1 | refine below_set ?_ GW157.out) | exact HBW.out)⟩
  ·rw [if_neg c3] at H
   exact absurd H (by simp)
 ·rw [if_neg c2] at H
  have c2b0 : decide (2000 < (l0.length : Int)) = false := decide_eq_false c2
  have c2b1 : decide (2000 < l0.length) = false := decide_eq_false (by omega)
  clear c2
  simp only [Option.some.injEq, Prod.mk.injEq] at H
  obtain ⟨rfl, rfl⟩ := H
  go_enter Tryz.func36, Tryz.ntmps36
  go_wp2_with (first | ((with_reducible refine gate_dst (N := 10) rfl ?_); refine box_event ?hg (N := 10) ?hd (cs := #[.slice A0 l0.length c0, .int .i64 0]) (t := 105) ?hr ?_; (case hd => rfl); (case hg => rfl); (case hr => first | (go_simp; done) | (go_simp; rfl)); intro gb158 hg w6 hbox hb; have n0_ := am (below_step HBW.out hb); have n1_ := am (below_step (bu HB.out) hb); have n2_ := am (hbox); have n3_ := am ((by rw [hg]; exact (below_size (bu HBW.out)) : w.heap.size ≤ gb158)); have n4_ := am ((Nat.le_trans HW0.out (by rw [hg]; exact (below_size (bu HBW.out)) : w.heap.size ≤ gb158) : w0.heap.size ≤ gb158)); clear HBW; clear HB; have HBW := n0_; have HB := n1_; have BK158 := n2_; have GW158 := n3_; have GE158 := n4_; clear n0_ n1_ n2_ n3_ n4_; clear hb hbox hg))
  go_ret
  exact ⟨_, rfl, (show IsS105 w0 _ gb158 l0 0 from ⟨_, _, gu BK158.out, GE158.out, HR0.out⟩), bu HB.out, by repeat (first | (with_reducible first | exact HBW.out | apply below_alloc | apply pw_below_drewN | apply below_drew1 | refine below_set ?_ GW158.out) | exact HBW.out)⟩

/-! ### spec_l6Rd_pick: function 37 -/
def spec_l6Rd_pick.j0 : Nat → Int → Bool → List Int → Int → Option (Int × Int)
 | 0, _, _, _, _ => none
 | k + 1, x1, x24, x1000, x1001 => if x24 = true then (some (0, x1001)) else (if (wrap64 (x1001 - 1)) < (x1000.length : Int) then (if 0 ≤ (wrap64 (x1001 - 1)) then (if x1 = 0 then (none) else (some (Int.tmod (wrap64 (rd x1000 (wrap64 (x1001 - 1)))) x1, x1001))) else (none)) else (if (x1000.length : Int) = 0 then (none) else (if 0 ≤ (Int.tmod (wrap64 (x1001 - 1)) (x1000.length : Int)) then (if (Int.tmod (wrap64 (x1001 - 1)) (x1000.length : Int)) < (x1000.length : Int) then (if 0 ≤ (Int.tmod (wrap64 ((wrap64 ((wrap64 (x1001 - 1)) * 7)) + 3)) (x1000.length : Int)) then (if (Int.tmod (wrap64 ((wrap64 ((wrap64 (x1001 - 1)) * 7)) + 3)) (x1000.length : Int)) < (x1000.length : Int) then (if x1 = 0 then (none) else (some (Int.tmod (Go.bits .xor .i64 (wrap64 ((wrap64 ((wrap64 ((wrap64 ((wrap64 (rd x1000 (Int.tmod (wrap64 (x1001 - 1)) (x1000.length : Int)))) * 131)) + (wrap64 ((wrap64 (rd x1000 (Int.tmod (wrap64 ((wrap64 ((wrap64 (x1001 - 1)) * 7)) + 3)) (x1000.length : Int)))) * 1117)))) + (wrap64 ((wrap64 (x1001 - 1)) * 29)))) + (wrap64 ((wrap64 (Int.tdiv (wrap64 (x1001 - 1)) (x1000.length : Int))) * 53)))) (wrap64 (Int.tdiv (wrap64 ((wrap64 ((wrap64 ((wrap64 ((wrap64 (rd x1000 (Int.tmod (wrap64 (x1001 - 1)) (x1000.length : Int)))) * 131)) + (wrap64 ((wrap64 (rd x1000 (Int.tmod (wrap64 ((wrap64 ((wrap64 (x1001 - 1)) * 7)) + 3)) (x1000.length : Int)))) * 1117)))) + (wrap64 ((wrap64 (x1001 - 1)) * 29)))) + (wrap64 ((wrap64 (Int.tdiv (wrap64 (x1001 - 1)) (x1000.length : Int))) * 53)))) 64))) x1, x1001))) else (none)) else (none)) else (none)) else (none))))
def spec_l6Rd_pick.f (k : Nat) (s0_0 : List Int) (s0_1 : Int) (a1 : Int) : Option (Int × Int) := if a1 < 1 then (spec_l6Rd_pick.j0 k a1 true s0_0 (wrap64 (s0_1 + 1))) else (spec_l6Rd_pick.j0 k a1 ((s0_0.length : Int) == 0) s0_0 (wrap64 (s0_1 + 1)))
set_option maxHeartbeats 8000000 in
set_option maxRecDepth 100000 in
theorem spec_l6Rd_pick.calls (k : Nat) (g : Nat) (s0_0 : List Int) (s0_1 : Int) (a1 : Int) (r1 : Int) (r2 : Int) (w0 w : World) (hI : IsS105 w0 w g s0_0 s0_1) (hB : Below w0.heap.size w0 w) (h : spec_l6Rd_pick.f k s0_0 s0_1 a1 = some (r1, r2)) :
  Calls Tryz.prog 37 #[.pointer (some ⟨g, 0, none⟩), .int .i64 a1] w fun e w' => e = .returned (.int .i64 r1) ∧ IsS105 w0 w' g s0_0 r2 ∧ Below w0.heap.size w0 w' ∧ KeepBut w w' g none := by
 have HI0 := am hI
 have HK := am (KeepBut.refl w g none)
 have HL := am hB.size
 clear hI
 have HW0 := am hB.size
 have HB := am hB
 clear hB
 have H : (if a1 < 1 then (spec_l6Rd_pick.j0 k a1 true s0_0 (wrap64 (s0_1 + 1))) else (spec_l6Rd_pick.j0 k a1 ((s0_0.length : Int) == 0) s0_0 (wrap64 (s0_1 + 1)))) = some (r1, r2) := h
 clear h
 have HC3 := am H
 clear H
 obtain ⟨ASz4_0, cSz4_0, HGz4, hgz4, HSz4_0⟩ := HI0.out
 have hcz4_0 := cellS105_0 HGz4
 have hcz4_1 := cellS105_1 HGz4
 have hfz4_1 := blk_frozen HGz4 1
 clear HGz4 hgz4
 go_enter Tryz.func37, Tryz.ntmps37
 go_upto_region 2 with (fail)
 repeat (go_quiet (fail); go_upto_region 2 with (fail))
 go_cut [24] (fun v24 wc => ∃ (kq : Nat) (x24_2 : Bool), v24 = .bool x24_2 ∧ Aside0 (spec_l6Rd_pick.j0 kq a1 x24_2 s0_0 (wrap64 (s0_1 + 1)) = some (r1, r2)) ∧ Aside0 (kq ≤ k) ∧ Aside0 (IsS105 w0 wc g s0_0 (wrap64 (s0_1 + 1))) ∧ Aside0 (KeepBut w wc g none) ∧ Aside0 (Below w0.heap.size w0 wc))
 case first =>
  have H := HC3.out
  clear HC3
  by_cases c5 : a1 < 1
  ·rw [if_pos c5] at H
   have c5b0 : decide (a1 < 1) = true := decide_eq_true c5
   clear c5
   (first | rw [c5b0] | (simp only [i64_w, i32_w]; rw [c5b0]) | skip)
   have H' := am H
   clear H
   go_wp2
   repeat (go_quiet (fail); try go_wp2)
   go_meet
   case rel => exact ⟨_, (true), (by first | rfl | (simp; done) | (simp [*]; done)), H', ⟨by first | omega | exact Nat.le_refl _⟩, ⟨by repeat (first | (with_reducible first | exact HI0.out | apply IsS105.alloc | apply IsS105.drewN | apply IsS105.drew | apply IsS105.set_1) | exact HI0.out)⟩, ⟨by repeat (first | (with_reducible first | exact HK.out | apply KeepBut.set_ | apply keep_drewN | apply keep_drew | apply keep_alloc) | exact HK.out)⟩, ⟨by repeat (first | (with_reducible first | exact HB.out | apply below_alloc | apply pw_below_drewN | apply below_drew1 | refine below_set ?_ (IsS105.ge HI0.out)) | exact HB.out)⟩⟩
  ·rw [if_neg c5] at H
   have c5b0 : decide (a1 < 1) = false := decide_eq_false c5
   clear c5
   (first | rw [c5b0] | (simp only [i64_w, i32_w]; rw [c5b0]) | skip)
   have H' := am H
   clear H
   obtain ⟨ASz6_0, cSz6_0, HGz6, hgz6, HSz6_0⟩ := HI0.out
   have hcz6_0 := cellS105_0 HGz6
   have hcz6_1 := cellS105_1 HGz6
   have hfz6_1 := blk_frozen HGz6 1
   clear HGz6 hgz6
   go_wp2
   repeat (go_quiet (fail); try go_wp2)
   go_meet
   case rel => exact ⟨_, (((s0_0.length : Int) == 0)), (by first | rfl | (simp; done) | (simp [*]; done)), H', ⟨by first | omega | exact Nat.le_refl _⟩, ⟨by repeat (first | (with_reducible first | exact HI0.out | apply IsS105.alloc | apply IsS105.drewN | apply IsS105.drew | apply IsS105.set_1) | exact HI0.out)⟩, ⟨by repeat (first | (with_reducible first | exact HK.out | apply KeepBut.set_ | apply keep_drewN | apply keep_drew | apply keep_alloc) | exact HK.out)⟩, ⟨by repeat (first | (with_reducible first | exact HB.out | apply below_alloc | apply pw_below_drewN | apply below_drew1 | refine below_set ?_ (IsS105.ge HI0.out)) | exact HB.out)⟩⟩
 case rest =>
  clear HC3
  try clear p2
  try clear c3
  try clear c5
  try clear c5b0
  try clear p6
  try clear hcz4_0
  try clear hcz4_1
  try clear hcz6_0
  try clear hcz6_1
  try clear hfz4_1
  try clear hfz6_1
  obtain ⟨kq, x24_2, rfl, HA, HJ2, HI0, HK, HB⟩ := hcut
  cases kq with
  | zero => exact absurd HA.out (by simp [spec_l6Rd_pick.j0])
  | succ kj2 =>
   have H := HA.out
   clear HA
   simp only [spec_l6Rd_pick.j0] at H
   by_cases c7 : x24_2 = true
   ·subst c7
    have H1 : (some (0, (wrap64 (s0_1 + 1)))) = some (r1, r2) := by rw [if_pos rfl] at H; exact H
    clear H
    have H := H1
    clear H1
    simp only [Option.some.injEq, Prod.mk.injEq] at H
    obtain ⟨rfl, rfl⟩ := H
    go_wp2
    repeat (go_quiet (fail); try go_wp2)
    go_ret
    exact ⟨by first | rfl | (simp [errW_none, errW_some] <;> rfl) | (simp [*, errW_none, errW_some] <;> rfl), by repeat (first | (with_reducible first | exact HI0.out | apply IsS105.alloc | apply IsS105.drewN | apply IsS105.drew | apply IsS105.set_1) | exact HI0.out), by repeat (first | (with_reducible first | exact HB.out | apply below_alloc | apply pw_below_drewN | apply below_drew1 | refine below_set ?_ (IsS105.ge HI0.out)) | exact HB.out), by repeat (first | (with_reducible first | exact HK.out | apply KeepBut.set_ | apply keep_drewN | apply keep_drew | apply keep_alloc) | exact HK.out)⟩
   ·replace c7 := Bool.eq_false_iff.mpr c7
    subst c7
    have H1 : (if (wrap64 ((wrap64 (s0_1 + 1)) - 1)) < (s0_0.length : Int) then (if 0 ≤ (wrap64 ((wrap64 (s0_1 + 1)) - 1)) then (if a1 = 0 then (none) else (some (Int.tmod (wrap64 (rd s0_0 (wrap64 ((wrap64 (s0_1 + 1)) - 1)))) a1, (wrap64 (s0_1 + 1))))) else (none)) else (if (s0_0.length : Int) = 0 then (none) else (if 0 ≤ (Int.tmod (wrap64 ((wrap64 (s0_1 + 1)) - 1)) (s0_0.length : Int)) then (if (Int.tmod (wrap64 ((wrap64 (s0_1 + 1)) - 1)) (s0_0.length : Int)) < (s0_0.length : Int) then (if 0 ≤ (Int.tmod (wrap64 ((wrap64 ((wrap64 ((wrap64 (s0_1 + 1)) - 1)) * 7)) + 3)) (s0_0.length : Int)) then (if (Int.tmod (wrap64 ((wrap64 ((wrap64 ((wrap64 (s0_1 + 1)) - 1)) * 7)) + 3)) (s0_0.length : Int)) < (s0_0.length : Int) then (if a1 = 0 then (none) else (some (Int.tmod (Go.bits .xor .i64 (wrap64 ((wrap64 ((wrap64 ((wrap64 ((wrap64 (rd s0_0 (Int.tmod (wrap64 ((wrap64 (s0_1 + 1)) - 1)) (s0_0.length : Int)))) * 131)) + (wrap64 ((wrap64 (rd s0_0 (Int.tmod (wrap64 ((wrap64 ((wrap64 ((wrap64 (s0_1 + 1)) - 1)) * 7)) + 3)) (s0_0.length : Int)))) * 1117)))) + (wrap64 ((wrap64 ((wrap64 (s0_1 + 1)) - 1)) * 29)))) + (wrap64 ((wrap64 (Int.tdiv (wrap64 ((wrap64 (s0_1 + 1)) - 1)) (s0_0.length : Int))) * 53)))) (wrap64 (Int.tdiv (wrap64 ((wrap64 ((wrap64 ((wrap64 ((wrap64 (rd s0_0 (Int.tmod (wrap64 ((wrap64 (s0_1 + 1)) - 1)) (s0_0.length : Int)))) * 131)) + (wrap64 ((wrap64 (rd s0_0 (Int.tmod (wrap64 ((wrap64 ((wrap64 ((wrap64 (s0_1 + 1)) - 1)) * 7)) + 3)) (s0_0.length : Int)))) * 1117)))) + (wrap64 ((wrap64 ((wrap64 (s0_1 + 1)) - 1)) * 29)))) + (wrap64 ((wrap64 (Int.tdiv (wrap64 ((wrap64 (s0_1 + 1)) - 1)) (s0_0.length : Int))) * 53)))) 64))) a1, (wrap64 (s0_1 + 1))))) else (none)) else (none)) else (none)) else (none)))) = some (r1, r2) := by rw [if_neg (show ¬ (false = true) by decide)] at H; exact H
    clear H
    have H := H1
    clear H1
    by_cases c8 : (wrap64 ((wrap64 (s0_1 + 1)) - 1)) < (s0_0.length : Int)
    ·rw [if_pos c8] at H
     have c8b0 : decide ((wrap64 ((wrap64 (s0_1 + 1)) - 1)) < (s0_0.length : Int)) = true := decide_eq_true c8
     clear c8
     obtain ⟨ji9, hji9⟩ : ∃ j_ : Int, (wrap64 ((wrap64 (s0_1 + 1)) - 1)) = j_ := ⟨_, rfl⟩
     replace H : (if 0 ≤ (ji9) then (if a1 = 0 then (none) else (some (Int.tmod (wrap64 (rd s0_0 (ji9))) a1, (wrap64 (s0_1 + 1))))) else (none)) = some (r1, r2) := by first | (rw [hji9] at H; exact H) | (simp only [hji9] at H ⊢; exact H)
     (try rw [hji9] at c8b0)
     have hji9w : (IntKind.i64.wrap ((wrap64 (s0_1 + 1)) - 1)) = ji9 := (i64_w _).trans hji9
     by_cases c10 : 0 ≤ (ji9)
     ·rw [if_pos c10] at H
      have c10b0 : decide (0 ≤ (ji9)) = true := decide_eq_true c10
      clear c10
      by_cases c11 : a1 = 0
      ·rw [if_pos c11] at H
       exact absurd H (by simp)
      ·rw [if_neg c11] at H
       have c11b0 : (a1 == 0) = false := beq_eq_false_iff_ne.mpr c11
       have c11b1 : (a1 != 0) = true := bne_iff_ne.mpr c11
       simp only [Option.some.injEq, Prod.mk.injEq] at H
       obtain ⟨rfl, rfl⟩ := H
       obtain ⟨ASz12_0, cSz12_0, HGz12, hgz12, HSz12_0⟩ := HI0.out
       have hcz12_0 := cellS105_0 HGz12
       have hcz12_1 := cellS105_1 HGz12
       have hfz12_1 := blk_frozen HGz12 1
       clear HGz12 hgz12
       have p159 : 0 ≤ ((ji9) : Int) := od
       have q159 : (ji9) < (s0_0.length : Int) := od
       obtain ⟨ad159, e159, hx159_0⟩ := Kd.at_int HSz12_0 (ji9) p159 q159
       cases e159
       replace hx159_0 := pw_cell_below HB.out hx159_0
       replace p159 := eq_true p159
       replace q159 := eq_true q159
       go_wp2
       repeat (go_quiet (fail); try go_wp2)
       go_ret
       exact ⟨by first | rfl | (simp [errW_none, errW_some] <;> rfl) | (simp only [← hji9]; first | rfl | (simp [errW_none, errW_some] <;> rfl)) | (simp [*, errW_none, errW_some] <;> rfl), by repeat (first | (with_reducible first | exact HI0.out | apply IsS105.alloc | apply IsS105.drewN | apply IsS105.drew | apply IsS105.set_1) | exact HI0.out), by repeat (first | (with_reducible first | exact HB.out | apply below_alloc | apply pw_below_drewN | apply below_drew1 | refine below_set ?_ (IsS105.ge HI0.out)) | exact HB.out), by repeat (first | (with_reducible first | exact HK.out | apply KeepBut.set_ | apply keep_drewN | apply keep_drew | apply keep_alloc) | exact HK.out)⟩
     ·rw [if_neg c10] at H
      exact absurd H (by simp)
    ·rw [if_neg c8] at H
     have c8b0 : decide ((wrap64 ((wrap64 (s0_1 + 1)) - 1)) < (s0_0.length : Int)) = false := decide_eq_false c8
     clear c8
     by_cases c13 : (s0_0.length : Int) = 0
     ·rw [if_pos c13] at H
      exact absurd H (by simp)
     ·rw [if_neg c13] at H
      have c13b0 : ((s0_0.length : Int) == 0) = false := beq_eq_false_iff_ne.mpr c13
      have c13b1 : ((s0_0.length : Int) != 0) = true := bne_iff_ne.mpr c13
      have c13b2 : ¬ (s0_0 = []) := fun h_ => c13 (by rw [h_]; rfl)
      obtain ⟨ji14, hji14⟩ : ∃ j_ : Int, (Int.tmod (wrap64 ((wrap64 (s0_1 + 1)) - 1)) (s0_0.length : Int)) = j_ := ⟨_, rfl⟩
      replace H : (if 0 ≤ (ji14) then (if (ji14) < (s0_0.length : Int) then (if 0 ≤ (Int.tmod (wrap64 ((wrap64 ((wrap64 ((wrap64 (s0_1 + 1)) - 1)) * 7)) + 3)) (s0_0.length : Int)) then (if (Int.tmod (wrap64 ((wrap64 ((wrap64 ((wrap64 (s0_1 + 1)) - 1)) * 7)) + 3)) (s0_0.length : Int)) < (s0_0.length : Int) then (if a1 = 0 then (none) else (some (Int.tmod (Go.bits .xor .i64 (wrap64 ((wrap64 ((wrap64 ((wrap64 ((wrap64 (rd s0_0 (ji14))) * 131)) + (wrap64 ((wrap64 (rd s0_0 (Int.tmod (wrap64 ((wrap64 ((wrap64 ((wrap64 (s0_1 + 1)) - 1)) * 7)) + 3)) (s0_0.length : Int)))) * 1117)))) + (wrap64 ((wrap64 ((wrap64 (s0_1 + 1)) - 1)) * 29)))) + (wrap64 ((wrap64 (Int.tdiv (wrap64 ((wrap64 (s0_1 + 1)) - 1)) (s0_0.length : Int))) * 53)))) (wrap64 (Int.tdiv (wrap64 ((wrap64 ((wrap64 ((wrap64 ((wrap64 (rd s0_0 (ji14))) * 131)) + (wrap64 ((wrap64 (rd s0_0 (Int.tmod (wrap64 ((wrap64 ((wrap64 ((wrap64 (s0_1 + 1)) - 1)) * 7)) + 3)) (s0_0.length : Int)))) * 1117)))) + (wrap64 ((wrap64 ((wrap64 (s0_1 + 1)) - 1)) * 29)))) + (wrap64 ((wrap64 (Int.tdiv (wrap64 ((wrap64 (s0_1 + 1)) - 1)) (s0_0.length : Int))) * 53)))) 64))) a1, (wrap64 (s0_1 + 1))))) else (none)) else (none)) else (none)) else (none)) = some (r1, r2) := by first | (rw [hji14] at H; exact H) | (simp only [hji14] at H ⊢; exact H)
      by_cases c15 : 0 ≤ (ji14)
      ·rw [if_pos c15] at H
       have c15b0 : decide (0 ≤ (ji14)) = true := decide_eq_true c15
       clear c15
       by_cases c16 : (ji14) < (s0_0.length : Int)
       ·rw [if_pos c16] at H
        have c16b0 : decide ((ji14) < (s0_0.length : Int)) = true := decide_eq_true c16
        clear c16
        obtain ⟨ji17, hji17⟩ : ∃ j_ : Int, (Int.tmod (wrap64 ((wrap64 ((wrap64 ((wrap64 (s0_1 + 1)) - 1)) * 7)) + 3)) (s0_0.length : Int)) = j_ := ⟨_, rfl⟩
        replace H : (if 0 ≤ (ji17) then (if (ji17) < (s0_0.length : Int) then (if a1 = 0 then (none) else (some (Int.tmod (Go.bits .xor .i64 (wrap64 ((wrap64 ((wrap64 ((wrap64 ((wrap64 (rd s0_0 (ji14))) * 131)) + (wrap64 ((wrap64 (rd s0_0 (ji17))) * 1117)))) + (wrap64 ((wrap64 ((wrap64 (s0_1 + 1)) - 1)) * 29)))) + (wrap64 ((wrap64 (Int.tdiv (wrap64 ((wrap64 (s0_1 + 1)) - 1)) (s0_0.length : Int))) * 53)))) (wrap64 (Int.tdiv (wrap64 ((wrap64 ((wrap64 ((wrap64 ((wrap64 (rd s0_0 (ji14))) * 131)) + (wrap64 ((wrap64 (rd s0_0 (ji17))) * 1117)))) + (wrap64 ((wrap64 ((wrap64 (s0_1 + 1)) - 1)) * 29)))) + (wrap64 ((wrap64 (Int.tdiv (wrap64 ((wrap64 (s0_1 + 1)) - 1)) (s0_0.length : Int))) * 53)))) 64))) a1, (wrap64 (s0_1 + 1))))) else (none)) else (none)) = some (r1, r2) := by first | (rw [hji17] at H; exact H) | (simp only [hji17] at H ⊢; exact H)
        by_cases c18 : 0 ≤ (ji17)
        ·rw [if_pos c18] at H
         have c18b0 : decide (0 ≤ (ji17)) = true := decide_eq_true c18
         clear c18
         by_cases c19 : (ji17) < (s0_0.length : Int)
         ·rw [if_pos c19] at H
          have c19b0 : decide ((ji17) < (s0_0.length : Int)) = true := decide_eq_true c19
          clear c19
          by_cases c20 : a1 = 0
          ·rw [if_pos c20] at H
           exact absurd H (by simp)
          ·rw [if_neg c20] at H
           have c20b0 : (a1 == 0) = false := beq_eq_false_iff_ne.mpr c20
           have c20b1 : (a1 != 0) = true := bne_iff_ne.mpr c20
           simp only [Option.some.injEq, Prod.mk.injEq] at H
           obtain ⟨rfl, rfl⟩ := H
           obtain ⟨ASz21_0, cSz21_0, HGz21, hgz21, HSz21_0⟩ := HI0.out
           have hcz21_0 := cellS105_0 HGz21
           have hcz21_1 := cellS105_1 HGz21
           have hfz21_1 := blk_frozen HGz21 1
           clear HGz21 hgz21
           have p160 : 0 ≤ ((ji14) : Int) := od
           have q160 : (ji14) < (s0_0.length : Int) := od
           obtain ⟨ad160, e160, hx160_0⟩ := Kd.at_int HSz21_0 (ji14) p160 q160
           cases e160
           replace hx160_0 := pw_cell_below HB.out hx160_0
           replace p160 := eq_true p160
           replace q160 := eq_true q160
           have p161 : 0 ≤ ((ji17) : Int) := od
           have q161 : (ji17) < (s0_0.length : Int) := od
           obtain ⟨ad161, e161, hx161_0⟩ := Kd.at_int HSz21_0 (ji17) p161 q161
           obtain rfl : ad160 = ad161 := (by injection e161)
           replace hx161_0 := pw_cell_below HB.out hx161_0
           replace p161 := eq_true p161
           replace q161 := eq_true q161
           go_wp2
           repeat (go_quiet (fail); try go_wp2)
           go_ret
           exact ⟨by first | rfl | (simp [errW_none, errW_some] <;> rfl) | (simp only [← hji14, ← hji17]; first | rfl | (simp [errW_none, errW_some] <;> rfl)) | (simp [*, errW_none, errW_some] <;> rfl), by repeat (first | (with_reducible first | exact HI0.out | apply IsS105.alloc | apply IsS105.drewN | apply IsS105.drew | apply IsS105.set_1) | exact HI0.out), by repeat (first | (with_reducible first | exact HB.out | apply below_alloc | apply pw_below_drewN | apply below_drew1 | refine below_set ?_ (IsS105.ge HI0.out)) | exact HB.out), by repeat (first | (with_reducible first | exact HK.out | apply KeepBut.set_ | apply keep_drewN | apply keep_drew | apply keep_alloc) | exact HK.out)⟩
         ·rw [if_neg c19] at H
          exact absurd H (by simp)
        ·rw [if_neg c18] at H
         exact absurd H (by simp)
       ·rw [if_neg c16] at H
        exact absurd H (by simp)
      ·rw [if_neg c15] at H
       exact absurd H (by simp)

/-! ### spec_l92Foot: function 48 -/
def spec_l92Foot.f (k : Nat) (s0_0 : List Int) (s0_1 : Int) : Option (Int × Int) := (spec_l6Rd_pick.f k s0_0 s0_1 12).bind fun bt162 => (if bt162.1 = 0 then ((some (([0, 7, (-1)] : List Int) : List Int)).bind fun y164 => ((spec_l6Rd_pick.f k s0_0 bt162.2 3).bind fun bt167 => (if 0 ≤ bt167.1 then (if bt167.1 < (y164.length : Int) then (some (rd y164 bt167.1, bt167.2)) else (none)) else (none)))) else ((spec_l6Rd_pick.f k s0_0 bt162.2 6).bind fun bt170 => (some (wrap64 (1 + bt170.1), bt170.2))))
set_option maxHeartbeats 8000000 in
set_option maxRecDepth 100000 in
theorem spec_l92Foot.calls (k : Nat) (g : Nat) (s0_0 : List Int) (s0_1 : Int) (r1 : Int) (r2 : Int) (w0 w : World) (hI : IsS105 w0 w g s0_0 s0_1) (hB : Below w0.heap.size w0 w) (h : spec_l92Foot.f k s0_0 s0_1 = some (r1, r2)) :
  Calls Tryz.prog 48 #[.pointer (some ⟨g, 0, none⟩)] w fun e w' => e = .returned (.int .i64 r1) ∧ IsS105 w0 w' g s0_0 r2 ∧ Below w0.heap.size w0 w' ∧ KeepBut w w' g none := by
 have HI0 := am hI
 have HK := am (KeepBut.refl w g none)
 have HL := am hB.size
 clear hI
 have HW0 := am hB.size
 have HB := am hB
 clear hB
 have H : ((spec_l6Rd_pick.f k s0_0 s0_1 12).bind fun bt162 => (if bt162.1 = 0 then ((some (([0, 7, (-1)] : List Int) : List Int)).bind fun y164 => ((spec_l6Rd_pick.f k s0_0 bt162.2 3).bind fun bt167 => (if 0 ≤ bt167.1 then (if bt167.1 < (y164.length : Int) then (some (rd y164 bt167.1, bt167.2)) else (none)) else (none)))) else ((spec_l6Rd_pick.f k s0_0 bt162.2 6).bind fun bt170 => (some (wrap64 (1 + bt170.1), bt170.2))))) = some (r1, r2) := h
 clear h
 replace H := Option.bind_eq_some_iff.mp H
 obtain ⟨⟨t162, t163⟩, A20, H⟩ := H
 replace H : (if t162 = 0 then ((some (([0, 7, (-1)] : List Int) : List Int)).bind fun y164 => ((spec_l6Rd_pick.f k s0_0 t163 3).bind fun bt167 => (if 0 ≤ bt167.1 then (if bt167.1 < (y164.length : Int) then (some (rd y164 bt167.1, bt167.2)) else (none)) else (none)))) else ((spec_l6Rd_pick.f k s0_0 t163 6).bind fun bt170 => (some (wrap64 (1 + bt170.1), bt170.2)))) = some (r1, r2) := H
 have A2 := am A20
 clear A20
 by_cases c3 : t162 = 0
 ·rw [if_pos c3] at H
  have c3b0 : (t162 == 0) = true := beq_iff_eq.mpr c3
  have c3b1 : (t162 != 0) = false := bne_eq_false_iff_eq.mpr c3
  clear c3
  obtain ⟨y164, hy164⟩ : ∃ y_ : List Int, y_ = (([0, 7, (-1)] : List Int)) := ⟨_, rfl⟩
  replace H : ((spec_l6Rd_pick.f k s0_0 t163 3).bind fun bt167 => (if 0 ≤ bt167.1 then (if bt167.1 < (y164.length : Int) then (some (rd y164 bt167.1, bt167.2)) else (none)) else (none))) = some (r1, r2) := by first | (rw [hy164]; with_reducible exact H) | (have H2_ := (Option.bind_some _ _).symm.trans H; rw [hy164]; with_reducible exact H2_) | (have H2_ := (Option.bind_some _ _).symm.trans H; with_reducible exact H2_) | with_reducible exact H | (rw [hy164]; exact H) | exact H
  have Ny164 := am hy164
  clear hy164
  replace H := Option.bind_eq_some_iff.mp H
  obtain ⟨⟨t167, t168⟩, A40, H⟩ := H
  replace H : (if 0 ≤ t167 then (if t167 < (y164.length : Int) then (some (rd y164 t167, t168)) else (none)) else (none)) = some (r1, r2) := H
  have A4 := am A40
  clear A40
  by_cases c5 : 0 ≤ t167
  ·rw [if_pos c5] at H
   have c5b0 : decide (0 ≤ t167) = true := decide_eq_true c5
   clear c5
   by_cases c6 : t167 < (y164.length : Int)
   ·rw [if_pos c6] at H
    have c6b0 : decide (t167 < (y164.length : Int)) = true := decide_eq_true c6
    clear c6
    simp only [Option.some.injEq, Prod.mk.injEq] at H
    obtain ⟨rfl, rfl⟩ := H
    go_enter Tryz.func48, Tryz.ntmps48
    go_wp2_with (first | ((with_reducible refine gate_callee (f := 37) rfl ?_); refine goesL_ (some 4) rfl rfl Tryz.func37 (by kernel_rfl) rfl #[.pointer (some ⟨g, 0, none⟩), .int .i64 12] rfl (by (try simp only [List.map_toArray, List.map_cons, List.map_nil]); first | done | rfl | (simp only [List.length_drop, List.length_take]; rfl)) ?_; (with_reducible refine (spec_l6Rd_pick.calls k g s0_0 s0_1 12 t162 t163 w0 _ ?side1 ?side2 A2.out).mono ?_); (case side1 => repeat (first | (with_reducible first | exact HI0.out | apply IsS105.alloc | apply IsS105.drewN | apply IsS105.drew | apply IsS105.set_1) | exact HI0.out)); (case side2 => repeat (first | (with_reducible first | exact HB.out | apply below_alloc | apply pw_below_drewN | apply below_drew1 | refine below_set ?_ (IsS105.ge HI0.out)) | exact HB.out)); rintro e w7 ⟨rfl, hi, hb, hk⟩; refine ⟨_, rfl, ?_⟩; have n0_ := am (KeepBut.trans (by repeat (first | (with_reducible first | exact HK.out | apply KeepBut.set_ | apply keep_drewN | apply keep_drew | apply keep_alloc) | exact HK.out)) hk (.inl rfl)); have n1_ := am (hb); have n2_ := am (hi); clear HK; clear HB; clear HI0; have HK := n0_; have HB := n1_; have HI0 := n2_; clear n0_ n1_ n2_; (try clear hb); (try clear hb2); (try clear hk); (try clear hi)) | ((with_reducible refine gate_dst (N := 6) rfl ?_); refine Kd.R_lit (Kd.int .i64) _ 3 ?hg (N := 6) ?hd (xs := ([0, 7, (-1)] : List Int)) (inner := [.int .i64 0, .int .i64 7, .int .i64 (-1)]) (ok := fun _ => True) (okp := fun _ => True) ?hr ?hp (fun _ hk => hk) trivial (Below.refl _ _) (Nat.le_refl _) (by simp) ?_; (case hd => rfl); (case hg => rfl); (case hr => first | (go_simp; done) | (go_simp; rfl)); (case hp => exact (Reps.one (show Kd.M (Kd.int .i64) _ _ _ 0 [.int .i64 0] from rfl) (Reps.one (show Kd.M (Kd.int .i64) _ _ _ 7 [.int .i64 7] from rfl) (Reps.one (show Kd.M (Kd.int .i64) _ _ _ (-1) [.int .i64 (-1)] from rfl) (Reps.none _ _))))); intro v165 w8 ho9 hb hg_ hnew_; clear hg_ hnew_; (first | rw [← Ny164.out] at ho9 | (simp only [Int.reduceToNat] at ho9; rw [← Ny164.out] at ho9)); have n0_ := am (Kd.R_lower ho9 (keep_size (w := w) (g := g) (row := none) (by repeat (first | (with_reducible first | exact HK.out | apply KeepBut.set_ | apply keep_drewN | apply keep_drew | apply keep_alloc) | exact HK.out)))); have n1_ := am (IsS105.below (by repeat (first | (with_reducible first | exact HI0.out | apply IsS105.alloc | apply IsS105.drewN | apply IsS105.drew | apply IsS105.set_1) | exact HI0.out)) hb); have n2_ := am (KeepBut.trans (by repeat (first | (with_reducible first | exact HK.out | apply KeepBut.set_ | apply keep_drewN | apply keep_drew | apply keep_alloc) | exact HK.out)) (KeepBut.of_below hb g none) (.inl rfl)); have n3_ := am (below_step (by repeat (first | (with_reducible first | exact HB.out | apply below_alloc | apply pw_below_drewN | apply below_drew1 | refine below_set ?_ (IsS105.ge HI0.out)) | exact HB.out)) hb); clear HI0; clear HK; clear HB; have HO166 := n0_; have HI0 := n1_; have HK := n2_; have HB := n3_; clear n0_ n1_ n2_ n3_; clear hb ho9) | ((with_reducible refine gate_callee (f := 37) rfl ?_); refine goesL_ (some 8) rfl rfl Tryz.func37 (by kernel_rfl) rfl #[.pointer (some ⟨g, 0, none⟩), .int .i64 3] rfl (by (try simp only [List.map_toArray, List.map_cons, List.map_nil]); first | done | rfl | (simp only [List.length_drop, List.length_take]; rfl)) ?_; (with_reducible refine (spec_l6Rd_pick.calls k g s0_0 t163 3 t167 t168 w0 _ ?side1 ?side2 A4.out).mono ?_); (case side1 => repeat (first | (with_reducible first | exact HI0.out | apply IsS105.alloc | apply IsS105.drewN | apply IsS105.drew | apply IsS105.set_1) | exact HI0.out)); (case side2 => repeat (first | (with_reducible first | exact HB.out | apply below_alloc | apply pw_below_drewN | apply below_drew1 | refine below_set ?_ (IsS105.ge HI0.out)) | exact HB.out)); rintro e w10 ⟨rfl, hi, hb, hk⟩; refine ⟨_, rfl, ?_⟩; have n0_ := am (Kd.R_mono (Kd.R_keep (IsS105.apart (show IsS105 w0 _ g s0_0 t163 from by repeat (first | (with_reducible first | exact HI0.out | apply IsS105.alloc | apply IsS105.drewN | apply IsS105.drew | apply IsS105.set_1) | exact HI0.out)) (ru HO166.out) (by decide)) hk (fun _ h => h.2)) (fun _ h => h.1)); have n1_ := am (KeepBut.trans (by repeat (first | (with_reducible first | exact HK.out | apply KeepBut.set_ | apply keep_drewN | apply keep_drew | apply keep_alloc) | exact HK.out)) hk (.inl rfl)); have n2_ := am (hb); have n3_ := am (hi); clear HO166; clear HK; clear HB; clear HI0; have HO166 := n0_; have HK := n1_; have HB := n2_; have HI0 := n3_; clear n0_ n1_ n2_ n3_; (try clear hb); (try clear hb2); (try clear hk); (try clear hi); obtain ⟨Ao11, co11, eo11⟩ := Kd.R_slice HO166.out; subst eo11; have p169 : 0 ≤ (t167 : Int) := od; have q169 : t167 < (y164.length : Int) := od; obtain ⟨ad169, e169, hx169_0⟩ := Kd.at_int (Kd.R_reads' HO166.out).2.2 t167 p169 q169; cases e169; replace p169 := eq_true p169; replace q169 := eq_true q169))
    go_ret
    exact ⟨by first | rfl | (simp [errW_none, errW_some] <;> rfl) | (simp [*, errW_none, errW_some] <;> rfl), by repeat (first | (with_reducible first | exact HI0.out | apply IsS105.alloc | apply IsS105.drewN | apply IsS105.drew | apply IsS105.set_1) | exact HI0.out), by repeat (first | (with_reducible first | exact HB.out | apply below_alloc | apply pw_below_drewN | apply below_drew1 | refine below_set ?_ (IsS105.ge HI0.out)) | exact HB.out), by repeat (first | (with_reducible first | exact HK.out | apply KeepBut.set_ | apply keep_drewN | apply keep_drew | apply keep_alloc) | exact HK.out)⟩
   ·rw [if_neg c6] at H
    exact absurd H (by simp)
  ·rw [if_neg c5] at H
   exact absurd H (by simp)
 ·rw [if_neg c3] at H
  have c3b0 : (t162 == 0) = false := beq_eq_false_iff_ne.mpr c3
  have c3b1 : (t162 != 0) = true := bne_iff_ne.mpr c3
  replace H := Option.bind_eq_some_iff.mp H
  obtain ⟨⟨t170, t171⟩, A120, H⟩ := H
  replace H : (some (wrap64 (1 + t170), t171)) = some (r1, r2) := H
  have A12 := am A120
  clear A120
  simp only [Option.some.injEq, Prod.mk.injEq] at H
  obtain ⟨rfl, rfl⟩ := H
  go_enter Tryz.func48, Tryz.ntmps48
  go_wp2_with (first | ((with_reducible refine gate_callee (f := 37) rfl ?_); refine goesL_ (some 4) rfl rfl Tryz.func37 (by kernel_rfl) rfl #[.pointer (some ⟨g, 0, none⟩), .int .i64 12] rfl (by (try simp only [List.map_toArray, List.map_cons, List.map_nil]); first | done | rfl | (simp only [List.length_drop, List.length_take]; rfl)) ?_; (with_reducible refine (spec_l6Rd_pick.calls k g s0_0 s0_1 12 t162 t163 w0 _ ?side1 ?side2 A2.out).mono ?_); (case side1 => repeat (first | (with_reducible first | exact HI0.out | apply IsS105.alloc | apply IsS105.drewN | apply IsS105.drew | apply IsS105.set_1) | exact HI0.out)); (case side2 => repeat (first | (with_reducible first | exact HB.out | apply below_alloc | apply pw_below_drewN | apply below_drew1 | refine below_set ?_ (IsS105.ge HI0.out)) | exact HB.out)); rintro e w13 ⟨rfl, hi, hb, hk⟩; refine ⟨_, rfl, ?_⟩; have n0_ := am (KeepBut.trans (by repeat (first | (with_reducible first | exact HK.out | apply KeepBut.set_ | apply keep_drewN | apply keep_drew | apply keep_alloc) | exact HK.out)) hk (.inl rfl)); have n1_ := am (hb); have n2_ := am (hi); clear HK; clear HB; clear HI0; have HK := n0_; have HB := n1_; have HI0 := n2_; clear n0_ n1_ n2_; (try clear hb); (try clear hb2); (try clear hk); (try clear hi)) | ((with_reducible refine gate_callee (f := 37) rfl ?_); refine goesL_ (some 12) rfl rfl Tryz.func37 (by kernel_rfl) rfl #[.pointer (some ⟨g, 0, none⟩), .int .i64 6] rfl (by (try simp only [List.map_toArray, List.map_cons, List.map_nil]); first | done | rfl | (simp only [List.length_drop, List.length_take]; rfl)) ?_; (with_reducible refine (spec_l6Rd_pick.calls k g s0_0 t163 6 t170 t171 w0 _ ?side1 ?side2 A12.out).mono ?_); (case side1 => repeat (first | (with_reducible first | exact HI0.out | apply IsS105.alloc | apply IsS105.drewN | apply IsS105.drew | apply IsS105.set_1) | exact HI0.out)); (case side2 => repeat (first | (with_reducible first | exact HB.out | apply below_alloc | apply pw_below_drewN | apply below_drew1 | refine below_set ?_ (IsS105.ge HI0.out)) | exact HB.out)); rintro e w14 ⟨rfl, hi, hb, hk⟩; refine ⟨_, rfl, ?_⟩; have n0_ := am (KeepBut.trans (by repeat (first | (with_reducible first | exact HK.out | apply KeepBut.set_ | apply keep_drewN | apply keep_drew | apply keep_alloc) | exact HK.out)) hk (.inl rfl)); have n1_ := am (hb); have n2_ := am (hi); clear HK; clear HB; clear HI0; have HK := n0_; have HB := n1_; have HI0 := n2_; clear n0_ n1_ n2_; (try clear hb); (try clear hb2); (try clear hk); (try clear hi)))
  go_ret
  exact ⟨by first | rfl | (simp [errW_none, errW_some] <;> rfl) | (simp [*, errW_none, errW_some] <;> rfl), by repeat (first | (with_reducible first | exact HI0.out | apply IsS105.alloc | apply IsS105.drewN | apply IsS105.drew | apply IsS105.set_1) | exact HI0.out), by repeat (first | (with_reducible first | exact HB.out | apply below_alloc | apply pw_below_drewN | apply below_drew1 | refine below_set ?_ (IsS105.ge HI0.out)) | exact HB.out), by repeat (first | (with_reducible first | exact HK.out | apply KeepBut.set_ | apply keep_drewN | apply keep_drew | apply keep_alloc) | exact HK.out)⟩

/-! ### spec_DrawRhythmOrdo: function 16 -/
def spec_DrawRhythmOrdo.f (k : Nat) (l0 : List Int) : Option (Int × Int) := (spec_l6Open.f l0).bind fun bt172 => ((spec_l92Foot.f k bt172.1 bt172.2).bind fun bt175 => ((spec_l6Rd_pick.f k bt172.1 bt175.2 14).bind fun bt177 => (some (bt175.1, bt177.1))))
set_option maxHeartbeats 8000000 in
set_option maxRecDepth 100000 in
theorem spec_DrawRhythmOrdo.calls (k : Nat) (A0 : Option Addr) (c0 : Nat) (l0 : List Int) (r1 : Int) (r2 : Int) (w : World) (hr0 : Kd.C (Kd.int .u8) w A0 l0.length l0) (hc0 : l0.length ≤ c0) (h : spec_DrawRhythmOrdo.f k l0 = some (r1, r2)) :
  Calls Tryz.prog 16 #[.slice A0 l0.length c0] w fun e w' => e = .returned (.tuple #[.int .i64 r1, .int .i64 r2]) ∧ Below w.heap.size w w' := by
 have HR0 := am hr0
 have HC0 := am hc0
 clear hr0 hc0
 have HB := am (Below.refl w.heap.size w)
 have H : ((spec_l6Open.f l0).bind fun bt172 => ((spec_l92Foot.f k bt172.1 bt172.2).bind fun bt175 => ((spec_l6Rd_pick.f k bt172.1 bt175.2 14).bind fun bt177 => (some (bt175.1, bt177.1))))) = some (r1, r2) := h
 clear h
 replace H := Option.bind_eq_some_iff.mp H
 obtain ⟨⟨t172, t173⟩, A20, H⟩ := H
 replace H : ((spec_l92Foot.f k t172 t173).bind fun bt175 => ((spec_l6Rd_pick.f k t172 bt175.2 14).bind fun bt177 => (some (bt175.1, bt177.1)))) = some (r1, r2) := H
 have A2 := am A20
 clear A20
 replace H := Option.bind_eq_some_iff.mp H
 obtain ⟨⟨t175, t176⟩, A30, H⟩ := H
 replace H : ((spec_l6Rd_pick.f k t172 t176 14).bind fun bt177 => (some (t175, bt177.1))) = some (r1, r2) := H
 have A3 := am A30
 clear A30
 replace H := Option.bind_eq_some_iff.mp H
 obtain ⟨⟨t177, t178⟩, A40, H⟩ := H
 replace H : (some (t175, t177)) = some (r1, r2) := H
 have A4 := am A40
 clear A40
 simp only [Option.some.injEq, Prod.mk.injEq] at H
 obtain ⟨rfl, rfl⟩ := H
 go_enter Tryz.func16, Tryz.ntmps16
 go_wp2_with (first | ((with_reducible refine gate_callee (f := 36) rfl ?_); refine goesL_ (some 6) rfl rfl Tryz.func36 (by kernel_rfl) rfl #[.slice A0 l0.length c0] rfl (by (try simp only [List.map_toArray, List.map_cons, List.map_nil]); first | done | rfl | (simp only [List.length_drop, List.length_take]; rfl)) ?_; (with_reducible refine (spec_l6Open.calls _ _ l0 t172 t173 w _ ?side1 ?side2 ?side3 A2.out).mono ?_); (case side1 => repeat (first | (with_reducible first | exact HB.out | apply below_alloc | apply pw_below_drewN | apply below_drew1) | exact HB.out)); (case side2 => exact HR0.out); (case side3 => exact HC0.out); rintro e w5 ⟨g174, rfl, hi, hb, hb2⟩; refine ⟨_, rfl, ?_⟩; have n0_ := am (hb); have n1_ := am (hi); clear HB; have HB := n0_; have HI174 := n1_; clear n0_ n1_; (try clear hb); (try clear hb2); (try clear hk); (try clear hi)) | ((with_reducible refine gate_callee (f := 48) rfl ?_); refine goesL_ (some 8) rfl rfl Tryz.func48 (by kernel_rfl) rfl #[.pointer (some ⟨g174, 0, none⟩)] rfl (by (try simp only [List.map_toArray, List.map_cons, List.map_nil]); first | done | rfl | (simp only [List.length_drop, List.length_take]; rfl)) ?_; (with_reducible refine (spec_l92Foot.calls k g174 t172 t173 t175 t176 w _ ?side1 ?side2 A3.out).mono ?_); (case side1 => repeat (first | (with_reducible first | exact HI174.out | apply IsS105.alloc | apply IsS105.drewN | apply IsS105.drew | apply IsS105.set_1) | exact HI174.out)); (case side2 => repeat (first | (with_reducible first | exact HB.out | apply below_alloc | apply pw_below_drewN | apply below_drew1 | refine below_set ?_ (IsS105.ge HI174.out)) | exact HB.out)); rintro e w6 ⟨rfl, hi, hb, hk⟩; refine ⟨_, rfl, ?_⟩; have n0_ := am (hb); have n1_ := am (hi); clear HB; clear HI174; have HB := n0_; have HI174 := n1_; clear n0_ n1_; (try clear hb); (try clear hb2); (try clear hk); (try clear hi)) | ((with_reducible refine gate_callee (f := 37) rfl ?_); refine goesL_ (some 10) rfl rfl Tryz.func37 (by kernel_rfl) rfl #[.pointer (some ⟨g174, 0, none⟩), .int .i64 14] rfl (by (try simp only [List.map_toArray, List.map_cons, List.map_nil]); first | done | rfl | (simp only [List.length_drop, List.length_take]; rfl)) ?_; (with_reducible refine (spec_l6Rd_pick.calls k g174 t172 t176 14 t177 t178 w _ ?side1 ?side2 A4.out).mono ?_); (case side1 => repeat (first | (with_reducible first | exact HI174.out | apply IsS105.alloc | apply IsS105.drewN | apply IsS105.drew | apply IsS105.set_1) | exact HI174.out)); (case side2 => repeat (first | (with_reducible first | exact HB.out | apply below_alloc | apply pw_below_drewN | apply below_drew1 | refine below_set ?_ (IsS105.ge HI174.out)) | exact HB.out)); rintro e w7 ⟨rfl, hi, hb, hk⟩; refine ⟨_, rfl, ?_⟩; have n0_ := am (hb); have n1_ := am (hi); clear HB; clear HI174; have HB := n0_; have HI174 := n1_; clear n0_ n1_; (try clear hb); (try clear hb2); (try clear hk); (try clear hi)))
 go_ret2
 exact ⟨by first | rfl | (simp [errW_none, errW_some] <;> rfl) | (simp [*, errW_none, errW_some] <;> rfl), by repeat (first | (with_reducible first | exact HB.out | apply below_alloc | apply pw_below_drewN | apply below_drew1 | refine below_set ?_ (IsS105.ge HI174.out)) | exact HB.out)⟩

/-! ### spec_l6In: function 51 -/
def spec_l6In.f (a0 : Int) (a1 : Int) (a2 : Int) : Option (Bool) := if a0 ≥ a1 then (some (decide (a0 ≤ a2))) else (some false)
set_option maxHeartbeats 8000000 in
set_option maxRecDepth 100000 in
theorem spec_l6In.calls (a0 : Int) (a1 : Int) (a2 : Int) (r : Bool) (w : World) (h : spec_l6In.f a0 a1 a2 = some r) :
  Calls Tryz.prog 51 #[.int .i64 a0, .int .i64 a1, .int .i64 a2] w fun e w' => e = .returned (.bool r) ∧ Drawn0 w w' := by
 have H : (if a0 ≥ a1 then (some (decide (a0 ≤ a2))) else (some false)) = some r := h
 clear h
 by_cases c4 : a0 ≥ a1
 ·rw [if_pos c4] at H
  have c4b0 : decide (a1 ≤ a0) = true := decide_eq_true c4
  clear c4
  obtain rfl := Option.some.inj H
  go_enter Tryz.func51, Tryz.ntmps51
  go_wp2
  go_ret
  exact ⟨by first | rfl | (simp; done) | (simp [*]; done), by repeat (first | exact Drawn0.refl _ | apply Drawn0.step)⟩
 ·rw [if_neg c4] at H
  have c4b0 : decide (a1 ≤ a0) = false := decide_eq_false c4
  clear c4
  obtain rfl := Option.some.inj H
  go_enter Tryz.func51, Tryz.ntmps51
  go_wp2
  go_ret
  exact ⟨by first | rfl | (simp; done) | (simp [*]; done), by repeat (first | exact Drawn0.refl _ | apply Drawn0.step)⟩

end Go.Proofs.YtjnkmckklmabcaaGreatDoor.XO
