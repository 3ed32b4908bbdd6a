-- Made by this session's gprint.py out of the translation. Not trusted: Lean checks it.
import Derived.Test.YtkdlfnakbilhjaaGreatDoorShelf
import Derived.Test.YtkdlfnakbilhjaaGreatDoorXKx0
import Derived.Test.YtkdlfnakbilhjaaGreatDoorXKx2
import Derived.Test.YtkdlfnakbilhjaaGreatDoorXKx3
import Derived.Test.YtkdlfnakbilhjaaGreatDoorXKx4
import Derived.Test.YtkdlfnakbilhjaaGreatDoorXKx5
namespace Go.Proofs.YtkdlfnakbilhjaaGreatDoor.XK
open Go.RowKit Go.Proofs.YtkdlfnakbilhjaaGreatDoorW.PrintWords Go.Proofs.YtkdlfnakbilhjaaGreatDoorW.PrintLast Go.Proofs.YtkdlfnakbilhjaaGreatDoorW.PrintMore
attribute [local go_sem] max2_int min2_int max_two min_two max_three min_three max_four min_four   -- for this text's walks alone
set_option linter.unusedVariables false
set_option linter.unusedSimpArgs false

/-! ### the commands, by hand -/
def cmdT : List (ByteArray × Int × Nat) := [(⟨#[109, 101, 108, 111, 100, 121]⟩, -1, 63), (⟨#[97, 100, 100]⟩, 1, 64), (⟨#[109, 111, 118, 101]⟩, 1, 65), (⟨#[115, 104, 111, 119]⟩, 0, 66), (⟨#[115, 116, 101, 112, 115]⟩, 0, 67), (⟨#[115, 105, 110, 103]⟩, 0, 68), (⟨#[110, 101, 117, 109, 101]⟩, 0, 69), (⟨#[109, 111, 100, 101, 115]⟩, 0, 70), (⟨#[109, 111, 100, 101]⟩, 0, 71), (⟨#[101, 110, 116, 101, 114]⟩, 1, 72), (⟨#[102, 105, 110, 100]⟩, 0, 73), (⟨#[111, 114, 100, 111]⟩, 2, 74)]
def cmdCells : List Value := cmdT.flatMap fun t => [.string t.1, .int .i64 t.2.1, .func (.func t.2.2) #[] #[]]
set_option maxRecDepth 100000 in
theorem allCommands_any (w : World) : Calls Tryz.prog 51 #[] w fun e w' => e = .returned (.slice (some ⟨w.heap.size, 0, none⟩) 12 12) ∧ w' = w.alloc (.cells cmdCells.toArray 65) := by
 go_enter Tryz.func51, Tryz.ntmps51
 go_wp2
 go_ret
 exact ⟨rfl, rfl⟩
theorem results_c1 {P : Program} {fn : Func} {p : Tmp} {ty : TypeId} (h : fn.results = #[.cell p ty]) (tmps : Array Value) (w : World) (g : Nat) (t : TypeId) (cs : Array Value) (fr : Nat × Nat) (d : TypeDesc)
  (hp : tmps.getD p undef = .pointer (some ⟨g, 0, none⟩)) (hg : w.heap[g]? = some (.cells cs t fr))
  (hu : P.underlying ty = some d) (hd : (match d with | .struct _ | .array _ _ => true | _ => false) = true) (hi : (P.info? ty).map (·.size) = some cs.size) :
  (results fn tmps).run P w = .ok (.agg cs) w := by
 have hp' : tmps[p]?.getD undef = .pointer (some ⟨g, 0, none⟩) := by simpa using hp
 simp [results, h, hp', asAddr, run_loadVar_row w g t ty cs fr d hg hu hd hi]
def cmdM (ws : List ByteArray) (t : ByteArray × Int × Nat) : Bool := (t.1.toList == (ws.headD ⟨#[]⟩).toList) && ((t.2.1 == -1) || (t.2.1 == (ws.length : Int) - 1))
theorem cmd_cell {W : World} {gt i : Nat} {t : ByteArray × Int × Nat} {T : Nat} (h : W.heap[gt]? = some (.cells cmdCells.toArray T (0, 0))) (hi : cmdT[i]? = some t) : W.cell? ⟨gt, i * 3, none⟩ = some (.string t.1) ∧ W.cell? ⟨gt, i * 3 + 1, none⟩ = some (.int .i64 t.2.1) ∧ W.cell? ⟨gt, i * 3 + 2, none⟩ = some (.func (.func t.2.2) #[] #[]) := by
 have key : ∀ j v, cmdCells[j]? = some v → W.cell? ⟨gt, j, none⟩ = some v := fun j v hj => (blk_cell h j).trans (by rw [List.getElem?_toArray]; exact hj)
 have hl : i < 12 := (List.getElem?_eq_some_iff.1 hi).1
 have : i = 0 ∨ i = 1 ∨ i = 2 ∨ i = 3 ∨ i = 4 ∨ i = 5 ∨ i = 6 ∨ i = 7 ∨ i = 8 ∨ i = 9 ∨ i = 10 ∨ i = 11 := by omega
 rcases this with rfl | rfl | rfl | rfl | rfl | rfl | rfl | rfl | rfl | rfl | rfl | rfl
 all_goals
  obtain rfl := Option.some.inj hi
  exact ⟨key _ _ rfl, key _ _ rfl, key _ _ rfl⟩
set_option maxHeartbeats 4000000 in
set_option maxRecDepth 100000 in
theorem commandFor_any (ws : List ByteArray) (b : Nat) (c : Nat) (i0 : Nat) (t : ByteArray × Int × Nat) (w : World) (hw : w.heap[b]? = some (.cells (ws.map Value.string).toArray 9 (0, 0))) (hc : ws.length ≤ c) (hlen : ws.length < 4294967296) (x0 : ByteArray) (hx : ws.head? = some x0) (hi : cmdT[i0]? = some t) (hm : cmdM ws t = true) (hlt : ∀ j u, j < i0 → cmdT[j]? = some u → cmdM ws u = false) :
  Calls Tryz.prog 34 #[.slice (some ⟨b, 0, none⟩) ws.length c] w fun e w' => e = .returned (.agg #[.string t.1, .int .i64 t.2.1, .func (.func t.2.2) #[] #[]]) ∧ Below w.heap.size w w' := by
 have HW := am hw
 obtain ⟨nl, hnl⟩ : ∃ nl : Nat, nl = ws.length := ⟨_, rfl⟩
 rw [← hnl] at hlen hc ⊢
 have HNL := am hnl
 clear hnl
 have HI := am hi
 have HM := am hm
 have HL := am hlt
 have HX := am hx
 have HB0 := am (below_alloc (Below.refl w.heap.size w) (.cells #[.string ⟨#[]⟩, .int .i64 0, .nilFunc] 65))
 have HW0 := am (blk_alloc hw (.cells #[.string ⟨#[]⟩, .int .i64 0, .nilFunc] 65))
 have HZ0 := am (blk_new w (.cells #[.string ⟨#[]⟩, .int .i64 0, .nilFunc] 65))
 clear hw hi hm hlt hx
 go_enter Tryz.func34, Tryz.ntmps34
 go_wp2_with fail
 refine (allCommands_any _).mono ?_
 rintro e w1 ⟨rfl, rfl⟩
 obtain ⟨gt, hgt⟩ : ∃ gt, gt = (w.alloc (.cells #[.string ⟨#[]⟩, .int .i64 0, .nilFunc] 65)).heap.size := ⟨_, rfl⟩
 have HT1 := am (blk_new (w.alloc (.cells #[.string ⟨#[]⟩, .int .i64 0, .nilFunc] 65)) (.cells cmdCells.toArray 65))
 have HW1 := am (blk_alloc HW0.out (.cells cmdCells.toArray 65))
 have HZ1 := am (blk_alloc HZ0.out (.cells cmdCells.toArray 65))
 have HB1 := am (below_alloc HB0.out (.cells cmdCells.toArray 65))
 rw [← hgt] at HT1 ⊢
 have HG := am hgt
 obtain ⟨gz, hgz⟩ : ∃ gz, gz = w.heap.size := ⟨_, rfl⟩
 have HGZ := am hgz
 rw [← hgz] at HZ1 ⊢
 generalize (w.alloc (.cells #[.string ⟨#[]⟩, .int .i64 0, .nilFunc] 65)).alloc (.cells cmdCells.toArray 65) = W1 at HT1 HW1 HZ1 HB1 ⊢
 clear HW0 HZ0 HB0 HW hgt hgz
 go_wp2_with fail
 go_loopg [7] 12 (fun kq v7 w' => ∃ (i : Nat), v7 = .int .i64 (i : Int) ∧ Aside0 (i ≤ i0 ∧ kq = 12 - i) ∧ Aside0 (w'.heap[gt]? = some (.cells cmdCells.toArray 65 (0, 0))) ∧ Aside0 (w'.heap[b]? = some (.cells (ws.map Value.string).toArray 9 (0, 0))) ∧ Aside0 (w'.heap[gz]? = some (.cells #[.string ⟨#[]⟩, .int .i64 0, .nilFunc] 65 (0, 0))) ∧ Aside0 (Below w.heap.size w w'))
 case atStart => exact ⟨0, rfl, ⟨by omega, by omega⟩, HT1, HW1, HZ1, HB1⟩
 case round =>
  obtain ⟨i, rfl, HI2, HT, HW, HZ, HB⟩ := hrel
  clear HT1 HW1 HZ1 HB1
  have hl0 : i0 < 12 := (List.getElem?_eq_some_iff.1 HI.out).1
  have hi12 : i < 12 := by have := HI2.out; omega
  obtain ⟨u, hu⟩ : ∃ u, cmdT[i]? = some u := ⟨_, List.getElem?_eq_getElem (show i < cmdT.length from hi12)⟩
  obtain ⟨k0, k1, k2⟩ := cmd_cell HT.out hu
  have HU := am hu
  have q0 : decide ((i : Int) < 12) = true := decide_eq_true (by omega)
  have p0 : 0 ≤ (i : Int) := by omega
  have p1 : (i : Int) < 12 := by omega
  replace p0 := eq_true p0
  replace p1 := eq_true p1
  clear hu hl0
  obtain ⟨u0, u1, u2⟩ := u
  dsimp only at k0 k1 k2
  have hsf : ∀ (a : Addr) (fn : Fn) (f c : Array Value) (m : Mode) (w : World), (store a (.func fn f c) m).run Tryz.prog w = stored Tryz.prog w a (.func fn f c) m := fun a fn f c m w => run_store Tryz.prog w a _ m rfl
  go_upto_region 4 with fail
  obtain ⟨gl, hgl⟩ : ∃ gl, gl = wr.heap.size := ⟨_, rfl⟩
  have HL2 := am (blk_new wr (.cells #[.string u0, .int .i64 u1, .func (.func u2) #[] #[]] 65))
  have HW2 := am (blk_alloc HW.out (.cells #[.string u0, .int .i64 u1, .func (.func u2) #[] #[]] 65))
  have HT2 := am (blk_alloc HT.out (.cells #[.string u0, .int .i64 u1, .func (.func u2) #[] #[]] 65))
  have HZ2 := am (blk_alloc HZ.out (.cells #[.string u0, .int .i64 u1, .func (.func u2) #[] #[]] 65))
  have HB2 := am (below_alloc HB.out (.cells #[.string u0, .int .i64 u1, .func (.func u2) #[] #[]] 65))
  rw [← hgl] at HL2 ⊢
  generalize wr.alloc (.cells #[.string u0, .int .i64 u1, .func (.func u2) #[] #[]] 65) = W2 at HL2 HW2 HT2 HZ2 HB2 ⊢
  clear k0 k1 k2 HW HT HZ HB hgl
  obtain ⟨xs, rfl⟩ : ∃ xs, ws = x0 :: xs := by
   have := HX.out
   cases ws with
   | nil => simp at this
   | cons a l => exact ⟨l, by have := Option.some.inj this; rw [this]⟩
  have c0 : W2.cell? ⟨gl, 0, none⟩ = some (.string u0) := (blk_cell HL2.out 0).trans rfl
  have c1 : W2.cell? ⟨gl, 1, none⟩ = some (.int .i64 u1) := (blk_cell HL2.out 1).trans rfl
  have c2 : W2.cell? ⟨gl, 2, none⟩ = some (.func (.func u2) #[] #[]) := (blk_cell HL2.out 2).trans rfl
  have d0 : W2.cell? ⟨b, 0, none⟩ = some (.string x0) := (blk_cell HW2.out 0).trans rfl
  have r1 : (0 : Int) < (nl : Int) := by rw [HNL.out, List.length_cons]; omega
  have r2 : (0 < nl) = True := eq_true (by omega)
  replace r1 := eq_true r1
  have HEQ := am (show cmdM (x0 :: xs) (u0, u1, u2) = ((u0.toList == x0.toList) && ((u1 == -1) || (u1 == (nl : Int) - 1))) by rw [HNL.out]; rfl)
  have w1 : wrap64 ((nl : Int) - 1) = (nl : Int) - 1 := by unfold wrap64; omega
  by_cases e0 : u0.toList = x0.toList
  ·have b0 : (u0.toList == x0.toList) = true := by rw [e0]; exact beq_self_eq_true _
   by_cases e1 : u1 = -1
   ·have b1 : (u1 == -1) = true := by rw [e1]; rfl
    replace HEQ := am (HEQ.out.trans (show _ = true by rw [b0, b1]; rfl))
    clear e0 e1
    go_quiet (fail)
    obtain ⟨rfl, HTU⟩ : i = i0 ∧ Aside0 (t = (u0, u1, u2)) := by
     by_cases hx2 : i = i0
     ·refine ⟨hx2, ⟨?_⟩⟩
      have a := HI.out
      rw [← hx2, HU.out] at a
      exact (Option.some.inj a).symm
     ·exfalso
      have a := HL.out i _ (by have := HI2.out; omega) HU.out
      rw [HEQ.out] at a
      exact absurd a (by decide)
    have c0' : (W2.drewN nq).cell? ⟨gl, 0, none⟩ = some (.string u0) := c0
    have c1' : (W2.drewN nq).cell? ⟨gl, 1, none⟩ = some (.int .i64 u1) := c1
    have c2' : (W2.drewN nq).cell? ⟨gl, 2, none⟩ = some (.func (.func u2) #[] #[]) := c2
    have HZ3 := am (blk_drewN HZ2.out nq)
    have HB3 := am (pw_below_drewN HB2.out nq)
    clear c0 c1 c2 d0 HZ2 HW2 HT2 HL2
    generalize W2.drewN nq = W3 at c0' c1' c2' HZ3 HB3 ⊢
    have z0 : W3.cell? ⟨gz, 0, none⟩ = some (.string ⟨#[]⟩) := (blk_cell HZ3.out 0).trans rfl
    have z1 : W3.cell? ⟨gz, 1, none⟩ = some (.int .i64 0) := (blk_cell HZ3.out 1).trans rfl
    have z2 : W3.cell? ⟨gz, 2, none⟩ = some .nilFunc := (blk_cell HZ3.out 2).trans rfl
    have qf := fun i => blk_frozen HZ3.out i
    go_wp2_with fail
    refine bodyPost_ret (results_c1 rfl _ _ gz 65 #[.string u0, .int .i64 u1, .func (.func u2) #[] #[]] (0, 0) _ rfl (blk_put (cs' := #[.string u0, .int .i64 u1, .func (.func u2) #[] #[]]) (blk_put (cs' := #[.string u0, .int .i64 u1, .nilFunc]) (blk_put (cs' := #[.string u0, .int .i64 0, .nilFunc]) HZ3.out 0 (.string u0) rfl) 1 (.int .i64 u1) rfl) 2 (.func (.func u2) #[] #[]) rfl) Tryz.underlying65 rfl (by kernel_rfl)) rfl ?_
    exact ⟨by rw [HTU.out], by rw [HGZ.out]; exact below_set (below_set (below_set HB3.out (Nat.le_refl _)) (Nat.le_refl _)) (Nat.le_refl _)⟩
   ·have b1 : (u1 == -1) = false := beq_eq_false_iff_ne.2 e1
    by_cases e2 : u1 = (nl : Int) - 1
    ·have b2 : (u1 == (nl : Int) - 1) = true := by rw [e2]; exact beq_self_eq_true _
     replace HEQ := am (HEQ.out.trans (show _ = true by rw [b0, b1, b2]; rfl))
     clear e0 e1 e2
     go_quiet (fail)
     obtain ⟨rfl, HTU⟩ : i = i0 ∧ Aside0 (t = (u0, u1, u2)) := by
      by_cases hx2 : i = i0
      ·refine ⟨hx2, ⟨?_⟩⟩
       have a := HI.out
       rw [← hx2, HU.out] at a
       exact (Option.some.inj a).symm
      ·exfalso
       have a := HL.out i _ (by have := HI2.out; omega) HU.out
       rw [HEQ.out] at a
       exact absurd a (by decide)
     have c0' : (W2.drewN nq).cell? ⟨gl, 0, none⟩ = some (.string u0) := c0
     have c1' : (W2.drewN nq).cell? ⟨gl, 1, none⟩ = some (.int .i64 u1) := c1
     have c2' : (W2.drewN nq).cell? ⟨gl, 2, none⟩ = some (.func (.func u2) #[] #[]) := c2
     have HZ3 := am (blk_drewN HZ2.out nq)
     have HB3 := am (pw_below_drewN HB2.out nq)
     clear c0 c1 c2 d0 HZ2 HW2 HT2 HL2
     generalize W2.drewN nq = W3 at c0' c1' c2' HZ3 HB3 ⊢
     have z0 : W3.cell? ⟨gz, 0, none⟩ = some (.string ⟨#[]⟩) := (blk_cell HZ3.out 0).trans rfl
     have z1 : W3.cell? ⟨gz, 1, none⟩ = some (.int .i64 0) := (blk_cell HZ3.out 1).trans rfl
     have z2 : W3.cell? ⟨gz, 2, none⟩ = some .nilFunc := (blk_cell HZ3.out 2).trans rfl
     have qf := fun i => blk_frozen HZ3.out i
     go_wp2_with fail
     refine bodyPost_ret (results_c1 rfl _ _ gz 65 #[.string u0, .int .i64 u1, .func (.func u2) #[] #[]] (0, 0) _ rfl (blk_put (cs' := #[.string u0, .int .i64 u1, .func (.func u2) #[] #[]]) (blk_put (cs' := #[.string u0, .int .i64 u1, .nilFunc]) (blk_put (cs' := #[.string u0, .int .i64 0, .nilFunc]) HZ3.out 0 (.string u0) rfl) 1 (.int .i64 u1) rfl) 2 (.func (.func u2) #[] #[]) rfl) Tryz.underlying65 rfl (by kernel_rfl)) rfl ?_
     exact ⟨by rw [HTU.out], by rw [HGZ.out]; exact below_set (below_set (below_set HB3.out (Nat.le_refl _)) (Nat.le_refl _)) (Nat.le_refl _)⟩
    ·have b2 : (u1 == (nl : Int) - 1) = false := beq_eq_false_iff_ne.2 e2
     replace HEQ := am (HEQ.out.trans (show _ = false by rw [b0, b1, b2]; rfl))
     clear e0 e1 e2
     go_quiet (fail)
     have HNE : Aside0 (i ≠ i0) := ⟨fun e => by
      have a := HI.out
      rw [← e, HU.out] at a
      have b := HM.out
      rw [← Option.some.inj a, HEQ.out] at b
      exact absurd b (by decide)⟩
     have HZ3 := am (blk_drewN HZ2.out nq)
     have HT3 := am (blk_drewN HT2.out nq)
     have HW3 := am (blk_drewN HW2.out nq)
     have HB3 := am (pw_below_drewN HB2.out nq)
     clear c0 c1 c2 d0 HZ2 HW2 HT2 HL2 HB2
     generalize W2.drewN nq = W3 at HZ3 HT3 HW3 HB3 ⊢
     go_wp2_with fail
     go_roundg (12 - (i + 1))
     case measure => have := HI2.out; omega
     case rel => exact ⟨i + 1, by have h2 : wrap64 ((i : Int) + 1) = (i : Int) + 1 := (by unfold wrap64; omega); simp [h2], ⟨by have := HI2.out; have := HNE.out; omega, rfl⟩, HT3, HW3, HZ3, HB3⟩
  ·have b0 : (u0.toList == x0.toList) = false := beq_eq_false_iff_ne.2 e0
   replace HEQ := am (HEQ.out.trans (show _ = false by rw [b0]; rfl))
   clear e0
   go_quiet (fail)
   have HNE : Aside0 (i ≠ i0) := ⟨fun e => by
    have a := HI.out
    rw [← e, HU.out] at a
    have b := HM.out
    rw [← Option.some.inj a, HEQ.out] at b
    exact absurd b (by decide)⟩
   have HZ3 := am (blk_drewN HZ2.out nq)
   have HT3 := am (blk_drewN HT2.out nq)
   have HW3 := am (blk_drewN HW2.out nq)
   have HB3 := am (pw_below_drewN HB2.out nq)
   clear c0 c1 c2 d0 HZ2 HW2 HT2 HL2 HB2
   generalize W2.drewN nq = W3 at HZ3 HT3 HW3 HB3 ⊢
   go_wp2_with fail
   go_roundg (12 - (i + 1))
   case measure => have := HI2.out; omega
   case rel => exact ⟨i + 1, by have h2 : wrap64 ((i : Int) + 1) = (i : Int) + 1 := (by unfold wrap64; omega); simp [h2], ⟨by have := HI2.out; have := HNE.out; omega, rfl⟩, HT3, HW3, HZ3, HB3⟩
def splitS (s : ByteArray) : List ByteArray := Lib.splitB ⟨#[32]⟩ 0 (Lib.countB s ⟨#[32]⟩) s
theorem splitS_len (s : ByteArray) : (splitS s).length = Lib.countB s ⟨#[32]⟩ + 1 := Lib.splitB_all ⟨#[32]⟩ (by decide) 0 _ s rfl
theorem splitS_le (s : ByteArray) : (splitS s).length ≤ s.size + 1 := by
 rw [splitS_len]
 have := Lib.countB_le ⟨#[32]⟩ (by decide) s.size s (Nat.le_refl _)
 omega
set_option maxHeartbeats 4000000 in
set_option maxRecDepth 100000 in
theorem line_idle (q : Addr) (w : World) : CallsD Tryz.prog 32 #[.pointer (some q)] .returning w fun e u' w' => e = .returned (.tuple #[]) ∧ u' = .returning ∧ w' = w := by
 have hnn : ∀ w : World, (binOp BinOp.neq 20 .nilIface .nilIface).run Tryz.prog w = .ok (.bool false) w := fun _ => by kernel_rfl
 refine callsD_of_wpS Tryz.func32 rfl fun c₀ cs hu => ?_
 apply wpS_seq
 apply wpS_region
 simp [wpOpsS, go_sem, recoverD, hu, Tryz.ntmps32, Exit.thenS]
 apply wpS_seq
 apply wpS_region
 simp [wpOpsS, go_sem, hnn, Exit.thenS]
 refine wpS_cond (t := false) (by simp [Act.eval, Array.replicate]) ?_
 simp only [Bool.false_eq_true, if_false]
 refine wpS_of_wp (wp_skip ?_)
 cases c₀
 simp_all [bodyPostS, results, Tryz.results32]
def noP (Q : Exit → Act → World → Prop) : Exit → Act → World → Prop
 | .normal, a, w => Q .normal a w
 | _, _, _ => False
theorem noP_le (Q : Exit → Act → World → Prop) : ∀ e a w, noP Q e a w → Q e a w := fun e a w h => by cases e <;> first | exact h | exact h.elim
theorem noP_in {Q : Exit → Act → World → Prop} {a : Act} {w : World} (h : Q .normal a w) : noP Q .normal a w := h
/-- All but block g stays, nothing is read or written outside. -/
def Kb (w w' : World) (g : Nat) : Prop := KeepBut w w' g none ∧ Below 0 w w'
theorem Kb.refl (w : World) (g : Nat) : Kb w w g := ⟨KeepBut.refl w g none, Below.refl 0 w⟩
theorem below_zero {w w' : World} {B : Nat} (h : Below B w w') : Below 0 w w' := ⟨h.os, h.tape, h.output, h.size, fun k hk => absurd hk (Nat.not_lt_zero k)⟩
theorem Kb.of_below {w w' : World} (h : Below w.heap.size w w') (g : Nat) : Kb w w' g := ⟨KeepBut.of_below h g none, below_zero h⟩
theorem Kb.trans {w w1 w2 : World} {g : Nat} (h : Kb w w1 g) (k : Kb w1 w2 g) : Kb w w2 g := ⟨KeepBut.trans h.1 k.1 (.inl rfl), h.2.trans k.2⟩
theorem below0_set {w w1 : World} (h : Below 0 w w1) (a : Addr) (u : Value) : Below 0 w (w1.setCell a u) := ⟨h.os, h.tape, h.output, by simpa [World.setCell] using h.size, fun k hk => absurd hk (Nat.not_lt_zero k)⟩
theorem Kb.set_new {w w1 : World} {g : Nat} (h : Kb w w1 g) {a : Addr} (ha : w.heap.size ≤ a.block) (u : Value) : Kb w (w1.setCell a u) g :=
 ⟨⟨by simpa [World.setCell] using h.1.1, fun i hi hg hr => (Below.heap_setCell w1 a u i (by omega)).trans (h.1.2 i hi hg hr)⟩, below0_set h.2 _ u⟩
theorem Kb.set_g {w w1 : World} {g : Nat} (h : Kb w w1 g) (j : Nat) (u : Value) : Kb w (w1.setCell ⟨g, j, none⟩ u) g := ⟨h.1.set_ j u, below0_set h.2 _ u⟩
theorem Kb.below {w0 w w' : World} {g B : Nat} (h : Kb w w' g) (hb : Below B w0 w) (hg : B ≤ g) (hB : B ≤ w.heap.size) : Below B w0 w' :=
 ⟨h.2.os.trans hb.os, h.2.tape.trans hb.tape, h.2.output.trans hb.output, Nat.le_trans hb.size h.2.size, fun k hk => (h.1.2 k (by omega) (by omega) (by simp)).trans (hb.block k hk)⟩
theorem goesV_ {P : Program} {ops : Array Oper} {Q : Exit → Act → World → Prop} {oi : Oper} {N : Option Tmp} {a : Act} {w : World} {K : Act → World → Prop} {f : FuncId} {fn : Func} {az : Array Operand} {ts : Array TypeId} (hf : P.funcs[f]? = some fn) (hname : (fn.name == "runtime.NumGoroutine") = false) (hb : fn.body.isSome = true) (s : Tmp) (hv : a.eval (.tmp s) = .func (.func f) #[] #[]) (args : Array Value)
  (hw : Region.wanted oi (yielded ops a.tmps) = true) (hN : oi.dst = N) (hop : oi.op = .call { callee := .value (.tmp s), args := az, argTypes := ts }) (hargs : az.map a.eval = args)
  (h : Calls P f args w fun e w' => ∃ v, e = .returned v ∧ K (a.put N v) w') : if Region.wanted oi (yielded ops a.tmps) = true then Oper.wp P oi a w K Q else K (a.put N undef) w := by
 refine call_ f args hw hN ?_ h
 have he := enters_ hf hname hb args w
 unfold execOp
 simp [hop, resolve, hv, Deferred.ofValue, invoke, hargs, he]
set_option maxHeartbeats 4000000 in
set_option maxRecDepth 100000 in
theorem runLine_any (g : Nat) (line out : ByteArray) (i0 : Nat) (t : ByteArray × Int × Nat) (w : World) (Q : World → Prop) (hTM : TabM w) (hg : g < w.heap.size) (hsz : line.size < 4294967281) (hi : cmdT[i0]? = some t) (hm : cmdM (splitS line) t = true) (hlt : ∀ j u, j < i0 → cmdT[j]? = some u → cmdM (splitS line) u = false)
  {fn : Func} (hf : Tryz.prog.funcs[t.2.2]? = some fn) (hname : (fn.name == "runtime.NumGoroutine") = false) (hbody : fn.body.isSome = true)
  (H : ∀ (b : Nat) (w1 : World), w.heap.size < b → w1.heap[b]? = some (.cells ((splitS line).map Value.string).toArray 9 (0, 0)) → Below w.heap.size w w1 → Calls Tryz.prog t.2.2 #[.pointer (some ⟨g, 0, none⟩), .slice (if (splitS line).length = 1 then some ⟨b, 0, none⟩ else some ⟨b, 1, none⟩) ((splitS line).length - 1) ((splitS line).length - 1)] w1 fun e w2 => e = .returned (.string out) ∧ Kb w1 w2 g ∧ Q w2) :
  Calls Tryz.prog 18 #[.pointer (some ⟨g, 0, none⟩), .string line] w fun e w' => e = .returned (.string out) ∧ ∃ w2, Q w2 ∧ Kb w w2 g ∧ w2.heap[w.heap.size]? = some (.cells #[.string ⟨#[]⟩] 9 (0, 0)) ∧ w' = w2.setCell ⟨w.heap.size, 0, none⟩ (.string out) := by
 have hmf : ∀ (fn : Fn) (first cap : Array Value) (w : World), (Instr.makeFunc fn first cap).run Tryz.prog w = .ok (.func fn first cap) w := fun _ _ _ _ => rfl
 have hfd : ∀ (a b c : Value) (w : World), (Instr.field 65 (.agg #[a, b, c]) 2).run Tryz.prog w = .ok c w := fun _ _ _ _ => by kernel_rfl
 have HM := am hm
 have HI := am hi
 have HL := am hlt
 have HH := am H
 have HTM := am hTM
 have HSZ := am hsz
 have HNE := am (show g ≠ w.heap.size by omega)
 clear hm hi hlt H hTM hsz hg
 go_enter_defers Tryz.func18, Tryz.ntmps18
 go_wp2_with fail
 have hB0 := below_alloc (Below.refl w.heap.size w) (.cells #[.string ⟨#[]⟩] 9)
 have hG0 := blk_new w (.cells #[.string ⟨#[]⟩] 9)
 obtain ⟨mm, hmm⟩ := TabM.below HTM.out hB0
 refine (Tryz.strings_Split line ⟨#[32]⟩ mm _ HSZ.out hmm (by decide)).mono ?_
 rintro e w1 ⟨rfl, rfl⟩
 obtain ⟨ws, hws⟩ : ∃ ws, ws = splitS line := ⟨_, rfl⟩
 have hln := splitS_len line
 have hle := splitS_le line
 have hh := HH.out
 have hM := HM.out
 have hL := HL.out
 clear HH HM HL
 rw [← hws] at hh hM hL hln hle
 have HH := am hh
 have HM := am hM
 have HL := am hL
 have HLE := am (show ws.length < 4294967296 by have := HSZ.out; omega)
 rw [show Lib.splitB ⟨#[32]⟩ 0 (Lib.countB line ⟨#[32]⟩) line = ws from hws.symm, ← hln]
 have hpos : 1 ≤ ws.length := by omega
 obtain ⟨b, hb⟩ : ∃ b, b = (w.alloc (.cells #[.string ⟨#[]⟩] 9)).heap.size := ⟨_, rfl⟩
 have HGB := am (show w.heap.size < b by rw [hb]; exact blk_lt hG0)
 have HR := am (blk_new (w.alloc (.cells #[.string ⟨#[]⟩] 9)) (.cells (ws.map Value.string).toArray 9))
 have HG := am (blk_alloc hG0 (.cells (ws.map Value.string).toArray 9))
 have HB := am (below_alloc hB0 (.cells (ws.map Value.string).toArray 9))
 rw [← hb] at HR ⊢
 generalize (w.alloc (.cells #[.string ⟨#[]⟩] 9)).alloc (.cells (ws.map Value.string).toArray 9) = W1 at HR HG HB ⊢
 obtain ⟨x0, hx⟩ : ∃ x0, ws.head? = some x0 := by
  cases ws with
  | nil => simp at hpos
  | cons a l => exact ⟨a, rfl⟩
 have HX := am hx
 clear hh hM hL hln hle hws hB0 hG0 hmm hb hx
 have hp2 : (1 ≤ ws.length) = True := eq_true hpos
 have hp3 : ((1 : Int) ≤ (ws.length : Int)) = True := eq_true (by omega)
 have hp4 : ((ws.length : Int) < 1) = False := eq_false (by omega)
 clear hpos
 go_wp2_with fail
 refine wp_mono (Q := noP _) ?_ (noP_le _)
 have HR1 := am (blk_drew HR.out)
 have HG1 := am (blk_drew HG.out)
 have HB1 := am (below_drew1 HB.out)
 refine start_ (n := 8) (S := fun w' => True) (ds := [7]) #[F,F,F,F,F,F,F,F] (by kernel_rfl) rfl rfl trivial (fun hHeld => ?_)
 clear HR HG HB
 generalize W1.drew = wd at HR1 HG1 HB1 hHeld ⊢
 refine pz 0 (some 9) #[T,F,F,F,F,F,F,F] (by kernel_rfl) (h := ?_)
 refine pz 3 (some 12) #[T,F,F,T,F,F,F,F] (by kernel_rfl) (h := ?_)
 refine pz 4 (some 13) #[T,F,F,T,T,F,F,F] (by kernel_rfl) (h := ?_)
 refine pz 5 (some 14) #[T,F,F,T,T,T,F,F] (by kernel_rfl) (h := ?_)
 refine one_ (i := 1) (N := some 10) #[T,T,F,T,T,T,F,F] rfl rfl (by kernel_rfl) (by decide) (fun K hK => ?_)
 refine goes_ Tryz.func34 (by kernel_rfl) rfl #[.slice (some ⟨b, 0, none⟩) ws.length ws.length] (by rfl) rfl rfl (by (try simp only [List.map_toArray, List.map_cons, List.map_nil]); first | done | rfl) ?_
 with_reducible refine (commandFor_any ws b ws.length i0 t _ HR1.out (Nat.le_refl _) HLE.out x0 HX.out HI.out HM.out HL.out).mono ?_
 rintro e we ⟨rfl, hb⟩
 refine ⟨_, rfl, ?_⟩
 have HR2 := am (blk_below HR1.out hb)
 have HG2 := am (blk_below HG1.out hb)
 have HB2 := am (below_step HB1.out hb)
 clear HR1 HG1 HB1 hb
 refine hK.out _ _ trivial (fun hHeld => ?_)
 clear hK K
 refine norm_ (a' := ?_) ?_ ?_
 rotate_left
 ·show Act.put _ (some 10) _ = _
  simp only [Act.put, sA, sZ, sS, i64_w, i32_w]
  rfl
 refine one_ (i := 2) (N := some 11) #[T,T,T,T,T,T,F,F] rfl rfl (by kernel_rfl) (by decide) (fun K hK => ?_)
 refine value_ (w1 := ?_) (v := ?_) (by rfl) rfl ?_ ?_
 rotate_left 2
 ·go_simp
  constructor
  ·rfl
  ·rfl
 refine hK.out _ _ trivial (fun hHeld => ?_)
 clear hK K
 refine norm_ (a' := ?_) ?_ ?_
 rotate_left
 ·show Act.put _ (some 11) _ = _
  simp only [Act.put, sA, sZ, sS, i64_w, i32_w]
  rfl
 refine one_ (i := 6) (N := some 15) #[T,T,T,T,T,T,T,F] rfl rfl (by kernel_rfl) (by decide) (fun K hK => ?_)
 refine goesV_ hf hname hbody 11 rfl #[.pointer (some ⟨g, 0, none⟩), .slice (if ws.length = 1 then some ⟨b, 0, none⟩ else some ⟨b, 1, none⟩) (ws.length - 1) (ws.length - 1)] (by rfl) rfl rfl (by (try simp only [List.map_toArray, List.map_cons, List.map_nil]); first | done | rfl) ?_
 with_reducible refine (HH.out b _ HGB.out HR2.out HB2.out).mono ?_
 rintro e w2 ⟨rfl, hk, hq⟩
 refine ⟨_, rfl, ?_⟩
 have HG3 := am ((hk.1.2 w.heap.size (blk_lt HG2.out) HNE.out.symm (by simp)).trans HG2.out)
 have HK3 := am (Kb.trans (Kb.of_below HB2.out g) hk)
 have HQ3 := am hq
 clear HR2 HG2 HB2 hk hq
 refine hK.out _ _ trivial (fun hHeld => ?_)
 clear hK K
 refine norm_ (a' := ?_) ?_ ?_
 rotate_left
 ·show Act.put _ (some 15) _ = _
  simp only [Act.put, sA, sZ, sS, i64_w, i32_w]
  rfl
 clear hHeld
 have q0 : w2.cell? ⟨w.heap.size, 0, none⟩ = some (.string ⟨#[]⟩) := blk_cell HG3.out 0
 have qf := fun i => blk_frozen HG3.out i
 refine last_ (i := 7) (N := none) #[T,T,T,T,T,T,T,T] rfl rfl (by kernel_rfl) (by decide) (fun K hK => ?_)
 refine skip_ (w1 := ?_) (by rfl) rfl ?_ ?_
 rotate_left
 ·go_simp
  rfl
 refine hK.out _ _ ?_
 clear hK K
 refine done_ (by kernel_rfl) ?_
 refine noP_in ?_
 go_wp2_with fail
 all_goals
  refine leaves_cons (f := 32) (args := #[.pointer (some ⟨w.heap.size, 0, none⟩)]) (by simp) (by simp [go_sem]) ?_
  refine (line_idle ⟨w.heap.size, 0, none⟩ _).mono ?_
  rintro e u' w'' ⟨rfl, rfl, rfl⟩
  have q1 : (w2.setCell ⟨w.heap.size, 0, none⟩ (.string out)).cell? ⟨w.heap.size, 0, none⟩ = some (.string out) := (blk_cell (blk_put (cs' := #[.string out]) HG3.out 0 (.string out) rfl) 0).trans rfl
  refine ⟨.string out, ?_, rfl, w2, HQ3.out, HK3.out, HG3.out, rfl⟩
  simp [results, Tryz.results18, go_sem, q1]
/-- What a script works on: a melody, a tonary. -/
abbrev St := List S49 × List S127
/-- The session at block g. -/
def Ses (base : Nat) (W : World) (g : Nat) (m : St) : Prop := ∃ A c A1 c1, W.heap[g]? = some (.cells #[.slice A m.1.length c, .slice A1 m.2.length c1] 41 (0, 0)) ∧ base ≤ g ∧ (m.1 ≠ [] → Kd.R k49 49 W base (fun _ => True) (.slice A m.1.length c) m.1) ∧ (m.2 ≠ [] → Kd.R k127 127 W base (fun _ => True) (.slice A1 m.2.length c1) m.2)
theorem Ses.below {base : Nat} {W W1 : World} {g : Nat} {m : St} (h : Ses base W g m) (hb : Below W.heap.size W W1) : Ses base W1 g m := by
 obtain ⟨A, c, A1, c1, h1, h2, h3, h4⟩ := h
 exact ⟨A, c, A1, c1, blk_below h1 hb, h2, fun hm => Kd.R_below (h3 hm) hb, fun hm => Kd.R_below (h4 hm) hb⟩
theorem Ses.far {base : Nat} {W : World} {g go : Nat} {m : St} {cs : Array Value} (h : Ses base W g m) (hb : W.heap[go]? = some (.cells cs 9 (0, 0))) (u : Value) : Ses base (W.setCell ⟨go, 0, none⟩ u) g m := by
 obtain ⟨A, c, A1, c1, h1, h2, h3, h4⟩ := h
 exact ⟨A, c, A1, c1, blk_far h1 (blk_ne h1 hb (by decide)) u, h2, fun hm => Kd.R_mono (Kd.R_far (Kd.R_types (h3 hm) hb (by decide)) (p := ⟨go, 0, none⟩) (fun _ hk => hk.2) u) (fun _ _ => trivial), fun hm => Kd.R_mono (Kd.R_far (Kd.R_types (h4 hm) hb (by decide)) (p := ⟨go, 0, none⟩) (fun _ hk => hk.2) u) (fun _ _ => trivial)⟩
theorem Ses.lt {base : Nat} {W : World} {g : Nat} {m : St} (h : Ses base W g m) : g < W.heap.size := by
 obtain ⟨A, c, A1, c1, h1, h2, h3⟩ := h
 exact blk_lt h1
theorem Ses.ge {base : Nat} {W : World} {g : Nat} {m : St} (h : Ses base W g m) : base ≤ g := by
 obtain ⟨A, c, A1, c1, h1, h2, h3⟩ := h
 exact h2
/-- What a line does: for each session that fits. -/
def LineOk (Tb : World → Prop) (m : St) (line out : ByteArray) (m' : St) : Prop :=
 ∀ (base g : Nat) (w : World), TabM w → Tb w → Ses base w g m → base ≤ w.heap.size → Calls Tryz.prog 18 #[.pointer (some ⟨g, 0, none⟩), .string line] w fun e w' => e = .returned (.string out) ∧ Kb w w' g ∧ Ses base w' g m'
/-- A line by its command's own contract. -/
theorem line_by {Tb : World → Prop} {m : St} {line out : ByteArray} {m' : St} (i0 : Nat) (t : ByteArray × Int × Nat) (hTb : ∀ w w1, Below w.heap.size w w1 → Tb w → Tb w1) (hsz : line.size < 4294967281) (hi : cmdT[i0]? = some t) (hix : cmdT.findIdx? (cmdM (splitS line)) = some i0)
  {fn : Func} (hf : Tryz.prog.funcs[t.2.2]? = some fn) (hname : (fn.name == "runtime.NumGoroutine") = false) (hbody : fn.body.isSome = true)
  (H : ∀ (base g b : Nat) (w1 : World), TabM w1 → Tb w1 → Ses base w1 g m → base ≤ w1.heap.size → g < b → w1.heap[b]? = some (.cells ((splitS line).map Value.string).toArray 9 (0, 0)) → Calls Tryz.prog t.2.2 #[.pointer (some ⟨g, 0, none⟩), .slice (if (splitS line).length = 1 then some ⟨b, 0, none⟩ else some ⟨b, 1, none⟩) ((splitS line).length - 1) ((splitS line).length - 1)] w1 fun e w2 => e = .returned (.string out) ∧ Kb w1 w2 g ∧ Ses base w2 g m') : LineOk Tb m line out m' := by
 intro base g w hTM hTB hs hbw
 obtain ⟨hlt, hm, hn⟩ := List.findIdx?_eq_some_iff_getElem.1 hix
 have hm' : cmdM (splitS line) t = true := by
  have e := List.getElem?_eq_getElem hlt
  rw [hi] at e
  rw [Option.some.inj e]
  exact hm
 refine (runLine_any g line out i0 t w (fun w2 => Ses base w2 g m') hTM hs.lt hsz hi hm' (fun j u hj hu => ?_) hf hname hbody (fun b w1 h1 h2 h3 => ?_)).mono ?_
 ·have e := List.getElem?_eq_getElem (show j < cmdT.length by omega)
  rw [hu] at e
  rw [Option.some.inj e]
  exact Bool.eq_false_iff.mpr (hn j hj)
 ·exact H base g b w1 (hTM.below h3) (hTb w w1 h3 hTB) (hs.below h3) (Nat.le_trans hbw h3.size) (Nat.lt_of_lt_of_le (Nat.lt_trans hs.lt (Nat.lt_succ_self _)) h1) h2
 ·rintro e w' ⟨rfl, w2, hq, hk, hb, rfl⟩
  exact ⟨rfl, hk.set_new (Nat.le_refl _) _, hq.far hb _⟩

theorem cut_len (t : List UInt8) : (Lib.cut t [10]).2.1.length ≤ t.length := by
 unfold Lib.cut
 split
 ·simp only [List.length_drop]
  omega
 ·simp
def execGo (step : St → ByteArray → Option (St × ByteArray)) : Nat → St → ByteArray → List UInt8 → Option (St × ByteArray)
 | 0, _, _, _ => none
 | k + 1, m, out, t => if (Lib.cut t [10]).2.2 = true then (step m ⟨(Lib.cut t [10]).1.toArray⟩).bind fun p => if out.size + p.2.size < 1000000 then execGo step k p.1 (out ++ (p.2 ++ (⟨#[10]⟩ : ByteArray))) (Lib.cut t [10]).2.1 else none else some (m, out)
theorem execGo_mono {step step' : St → ByteArray → Option (St × ByteArray)} (hs : ∀ m l, LeO (step m l) (step' m l)) : ∀ k m out t, LeO (execGo step k m out t) (execGo step' (k + 1) m out t)
 | 0, _, _, _ => LeO.none _
 | k + 1, m, out, t => by
  rw [execGo, execGo]
  split
  ·refine LeO.bind (hs _ _) (fun p => ?_)
   split
   ·exact execGo_mono hs k _ _ _
   ·exact LeO.none _
  ·exact LeO.refl _
def execTxt (out : ByteArray) (n e : Nat) : ByteArray := ((((out ++ (⟨#[116, 111, 110, 101, 115, 32]⟩ : ByteArray)) ++ decS n) ++ (⟨#[32, 101, 110, 116, 114, 105, 101, 115, 32]⟩ : ByteArray)) ++ decS e) ++ (⟨#[10]⟩ : ByteArray)
theorem decS_size (n : Nat) : (decS n).size ≤ 2 := by
 unfold decS
 split
 ·exact (by decide : (1 : Nat) ≤ 2)
 ·exact (by decide : (2 : Nat) ≤ 2)
set_option maxHeartbeats 8000000 in
set_option maxRecDepth 100000 in
theorem exec_any (Tb : World → Prop) (hTb : ∀ w w1, Below w.heap.size w w1 → Tb w → Tb w1) (step : St → ByteArray → Option (St × ByteArray)) (hok : ∀ m line m' o, step m line = some (m', o) → LineOk Tb m line o m')
  (k : Nat) (text : ByteArray) (M : St) (OUT : ByteArray) (h : execGo step k ([], []) ⟨#[]⟩ text.data.toList = some (M, OUT)) (hs : text.size ≤ 400) (hm : M.1.length < 25 ∧ M.2.length < 25) (ho : OUT.size < 2000000) (w : World) (hTM : TabM w) (hTB : Tb w) :
  Calls Tryz.prog 7 #[.string text] w fun e w' => e = .returned (.string (execTxt OUT M.1.length M.2.length)) ∧ Below w.heap.size w w' := by
 have HTb := am hTb
 have HOK := am hok
 have HE := am h
 have HS := am hs
 have HM := am hm
 have HO := am ho
 have HTM := am hTM
 have HTB := am hTB
 have g0 : decide ((text.size : Int) > 400) = false := decide_eq_false (by omega)
 have g1 : ((400 : Int) < (text.size : Int)) = False := eq_false (by omega)
 have g2 : (400 < text.size) = False := eq_false (by omega)
 clear hTb hok h hs hm ho hTM hTB
 go_enter Tryz.func7, Tryz.ntmps7
 go_wp2_with fail
 have hB0 := below_alloc (Below.refl w.heap.size w) (.cells #[.slice none 0 0, .slice none 0 0] 41)
 have hG0 := blk_new w (.cells #[.slice none 0 0, .slice none 0 0] 41)
 obtain ⟨mm, hmm⟩ := TabM.below HTM.out hB0
 refine (Tryz.strings_Cut text ⟨#[10]⟩ mm _ (by have := HS.out; omega) hmm).mono ?_
 rintro e w1 ⟨rfl, nd, rfl⟩
 obtain ⟨tx, htx⟩ : ∃ tx, tx = text.data.toList := ⟨_, rfl⟩
 have hlt : tx.length ≤ 400 := by
  have h1 := HS.out
  have h2 : text.size = tx.length := by rw [htx, Array.length_toList]; rfl
  omega
 have HE2 := am (show execGo step k ([], []) ⟨#[]⟩ tx = some (M, OUT) by rw [htx]; exact HE.out)
 have HLT := am hlt
 rw [← htx]
 rw [show (⟨#[10]⟩ : ByteArray).data.toList = [10] from rfl]
 obtain ⟨gs, hgs⟩ : ∃ gs, gs = w.heap.size := ⟨_, rfl⟩
 have HGS := am hgs
 have HB1 := am (pw_below_drewN hB0 nd)
 have HS1 := am (show Ses w.heap.size ((w.alloc (.cells #[.slice none 0 0, .slice none 0 0] 41)).drewN nd) gs ([], []) from ⟨none, 0, none, 0, by rw [hgs]; exact blk_drewN hG0 nd, by omega, fun h => absurd rfl h, fun h => absurd rfl h⟩)
 rw [← hgs] at ⊢
 generalize (w.alloc (.cells #[.slice none 0 0, .slice none 0 0] 41)).drewN nd = W1 at HB1 HS1 ⊢
 clear hB0 hG0 hmm htx hlt hgs HE
 go_wp2_with fail
 go_loopg [4, 5, 6, 7] k (fun kq v4 v5 v6 v7 w' => ∃ (m : St) (o : ByteArray) (t : List UInt8), v4 = .string o ∧ v5 = .string ⟨(Lib.cut t [10]).1.toArray⟩ ∧ v6 = .string ⟨(Lib.cut t [10]).2.1.toArray⟩ ∧ v7 = .bool (Lib.cut t [10]).2.2 ∧ Aside0 (execGo step kq m o t = some (M, OUT)) ∧ Aside0 (t.length ≤ 400) ∧ Aside0 (Ses w.heap.size w' gs m) ∧ Aside0 (Below w.heap.size w w'))
 case atStart => exact ⟨([], []), ⟨#[]⟩, tx, rfl, rfl, rfl, rfl, HE2, HLT, HS1, HB1⟩
 case round =>
  obtain ⟨m, o, t, rfl, rfl, rfl, rfl, HX, HL, HS2, HB⟩ := hrel
  clear HE2 HLT HS1 HB1
  cases gk with
  | zero => exact absurd HX.out (by simp [execGo])
  | succ k1 =>
   have hx := HX.out
   rw [execGo] at hx
   have hcl := cut_len t
   have hl := HL.out
   obtain ⟨c, hc⟩ : ∃ c, c = Lib.cut t [10] := ⟨_, rfl⟩
   rw [← hc] at hx hcl ⊢
   obtain ⟨c1, c2, c3⟩ := c
   dsimp only at hx hcl ⊢
   cases c3 with
   | true =>
    rw [if_pos rfl] at hx
    obtain ⟨⟨m2, o2⟩, hp, hx⟩ := Option.bind_eq_some_iff.1 hx
    dsimp only at hx
    by_cases hsz : o.size + o2.size < 1000000
    ·rw [if_pos hsz] at hx
     have HX2 := am hx
     have HP := am hp
     have HC2 := am (show c2.length ≤ 400 by omega)
     have s1 : (9223372036854775807 < o2.size + 1) = False := eq_false (by omega)
     have s2 : (9223372036854775807 < o.size + (o2.size + 1)) = False := eq_false (by omega)
     clear hx hp hc hcl hl hsz HX
     go_wp2_with fail
     refine (HOK.out m ⟨c1.toArray⟩ m2 o2 HP.out w.heap.size gs wr (TabM.below HTM.out HB.out) (HTb.out _ _ HB.out HTB.out) HS2.out HB.out.size).mono ?_
     rintro e w2 ⟨rfl, hk, hs⟩
     have HB3 := am (hk.below HB.out (by have := HGS.out; omega) HB.out.size)
     have HS3 := am hs
     clear hk hs HS2 HB
     go_wp2_with fail
     obtain ⟨mm, hmm⟩ := TabM.below HTM.out HB3.out
     refine (Tryz.strings_Cut ⟨c2.toArray⟩ ⟨#[10]⟩ mm _ (by have := HC2.out; show c2.toArray.size < _; rw [List.size_toArray]; omega) hmm).mono ?_
     rintro e w3 ⟨rfl, nd, rfl⟩
     rw [show (⟨#[10]⟩ : ByteArray).data.toList = [10] from rfl, show (⟨c2.toArray⟩ : ByteArray).data.toList = c2 from rfl]
     have HB4 := am (pw_below_drewN HB3.out nd)
     have HS4 := am (HS3.out.below (pw_below_drewN (Below.refl _ _) nd))
     clear hmm HB3 HS3
     generalize w2.drewN nd = W4 at HB4 HS4 ⊢
     go_wp2_with fail
     go_roundg k1
     case measure => omega
     case rel => exact ⟨m2, _, c2, rfl, rfl, rfl, rfl, HX2, HC2, HS4, HB4⟩
    ·rw [if_neg hsz] at hx
     exact absurd hx (by simp)
   | false =>
    rw [if_neg (by decide)] at hx
    obtain ⟨rfl, rfl⟩ : m = M ∧ o = OUT := by simpa using hx
    clear hx hc hcl hl HX
    obtain ⟨A, ca, A1, c1a, hb1, hb2, hb3⟩ := HS2.out
    have HBL := am hb1
    clear hb1 hb2 hb3 HS2
    obtain ⟨d, hd⟩ : ∃ d, d = decS m.1.length := ⟨_, rfl⟩
    have hds := decS_size m.1.length
    have hd0 := decS_size m.2.length
    rw [← hd] at hds
    obtain ⟨z, hz⟩ : ∃ z, z = decS m.2.length := ⟨_, rfl⟩
    rw [← hz] at hd0
    have HD := am hd
    have HZ := am hz
    have hosz := HO.out
    have s1 : (9223372036854775807 < o.size + 6) = False := eq_false (by omega)
    have s2 : (9223372036854775807 < o.size + 6 + d.size) = False := eq_false (by omega)
    have s3 : (9223372036854775807 < o.size + 6 + d.size + 9) = False := eq_false (by omega)
    have s4 : (9223372036854775807 < o.size + 6 + d.size + 9 + z.size) = False := eq_false (by omega)
    have s5 : (9223372036854775807 < o.size + 6 + d.size + 9 + z.size + 1) = False := eq_false (by omega)
    clear hd hz hds hd0 hosz
    go_wp2_with fail
    have HBL1 := am (blk_drew HBL.out)
    have HB1 := am (below_drew1 HB.out)
    refine start_ (n := 19) (S := fun w' => w'.cell? ⟨gs, 0, none⟩ = some (.slice A m.1.length ca) ∧ w'.cell? ⟨gs, 1, none⟩ = some (.slice A1 m.2.length c1a)) (ds := []) #[F,F,F,F,F,F,F,F,F,F,F,F,F,F,F,F,F,F,F] (by kernel_rfl) rfl rfl ⟨(blk_cell HBL1.out 0).trans rfl, (blk_cell HBL1.out 1).trans rfl⟩ (fun hHeld => ?_)
    clear HBL HB
    generalize wr.drew = wd at HBL1 HB1 hHeld ⊢
    refine pz 0 (some 32) #[T,F,F,F,F,F,F,F,F,F,F,F,F,F,F,F,F,F,F] (by kernel_rfl) (h := ?_)
    refine pz 1 (some 33) #[T,T,F,F,F,F,F,F,F,F,F,F,F,F,F,F,F,F,F] (by kernel_rfl) (h := ?_)
    refine pz 2 (some 34) #[T,T,T,F,F,F,F,F,F,F,F,F,F,F,F,F,F,F,F] (by kernel_rfl) (h := ?_)
    refine pz 3 (some 35) #[T,T,T,T,F,F,F,F,F,F,F,F,F,F,F,F,F,F,F] (by kernel_rfl) (h := ?_)
    refine pz 4 (some 36) #[T,T,T,T,T,F,F,F,F,F,F,F,F,F,F,F,F,F,F] (by kernel_rfl) (h := ?_)
    refine pz 10 (some 42) #[T,T,T,T,T,F,F,F,F,F,T,F,F,F,F,F,F,F,F] (by kernel_rfl) (h := ?_)
    refine pz 11 (some 43) #[T,T,T,T,T,F,F,F,F,F,T,T,F,F,F,F,F,F,F] (by kernel_rfl) (h := ?_)
    refine pz 12 (some 44) #[T,T,T,T,T,F,F,F,F,F,T,T,T,F,F,F,F,F,F] (by kernel_rfl) (h := ?_)
    refine tz hHeld 5 (some 37) #[T,T,T,T,T,T,F,F,F,F,T,T,T,F,F,F,F,F,F] (by kernel_rfl) (h := ?_)
    refine tz hHeld 13 (some 45) #[T,T,T,T,T,T,F,F,F,F,T,T,T,T,F,F,F,F,F] (by kernel_rfl) (h := ?_)
    refine pz 6 (some 38) #[T,T,T,T,T,T,T,F,F,F,T,T,T,T,F,F,F,F,F] (by kernel_rfl) (h := ?_)
    refine pz 14 (some 46) #[T,T,T,T,T,T,T,F,F,F,T,T,T,T,T,F,F,F,F] (by kernel_rfl) (h := ?_)
    refine one_ (i := 7) (N := some 39) #[T,T,T,T,T,T,T,T,F,F,T,T,T,T,T,F,F,F,F] rfl rfl (by kernel_rfl) (by decide) (fun K hK => ?_)
    refine goes_ Tryz.func19 (by kernel_rfl) rfl #[.int .i64 (m.1.length : Int)] (by rfl) rfl rfl (by (try simp only [List.map_toArray, List.map_cons, List.map_nil]); first | done | rfl) ?_
    with_reducible refine (itoaD m.1.length d HM.out.1 HD.out _).mono ?_
    rintro e we ⟨rfl, nd, rfl⟩
    refine ⟨_, rfl, ?_⟩
    refine hK.out _ _ ⟨hHeld.1, hHeld.2⟩ (fun hHeld => ?_)
    clear hK K
    refine norm_ (a' := ?_) ?_ ?_
    rotate_left
    ·show Act.put _ (some 39) _ = _
     simp only [Act.put, sA, sZ, sS, i64_w, i32_w]
     rfl
    have HB2 := am (pw_below_drewN HB1.out nd)
    clear HB1
    generalize wd.drewN nd = wd2 at HB2 hHeld ⊢
    refine pz 8 (some 40) #[T,T,T,T,T,T,T,T,T,F,T,T,T,T,T,F,F,F,F] (by kernel_rfl) (h := ?_)
    refine pz 9 (some 41) #[T,T,T,T,T,T,T,T,T,T,T,T,T,T,T,F,F,F,F] (by kernel_rfl) (h := ?_)
    refine one_ (i := 15) (N := some 47) #[T,T,T,T,T,T,T,T,T,T,T,T,T,T,T,T,F,F,F] rfl rfl (by kernel_rfl) (by decide) (fun K hK => ?_)
    refine goes_ Tryz.func19 (by kernel_rfl) rfl #[.int .i64 (m.2.length : Int)] (by rfl) rfl rfl (by (try simp only [List.map_toArray, List.map_cons, List.map_nil]); first | done | rfl) ?_
    with_reducible refine (itoaD m.2.length z HM.out.2 HZ.out _).mono ?_
    rintro e we ⟨rfl, nd, rfl⟩
    refine ⟨_, rfl, ?_⟩
    refine hK.out _ _ ⟨hHeld.1, hHeld.2⟩ (fun hHeld => ?_)
    clear hK K
    refine norm_ (a' := ?_) ?_ ?_
    rotate_left
    ·show Act.put _ (some 47) _ = _
     simp only [Act.put, sA, sZ, sS, i64_w, i32_w]
     rfl
    have HB1 := am (pw_below_drewN HB2.out nd)
    clear HB2
    generalize wd2.drewN nd = wd3 at HB1 hHeld ⊢
    refine pz 16 (some 48) #[T,T,T,T,T,T,T,T,T,T,T,T,T,T,T,T,T,F,F] (by kernel_rfl) (h := ?_)
    refine pz 17 (some 49) #[T,T,T,T,T,T,T,T,T,T,T,T,T,T,T,T,T,T,F] (by kernel_rfl) (h := ?_)
    refine pz 18 (some 2) #[T,T,T,T,T,T,T,T,T,T,T,T,T,T,T,T,T,T,T] (by kernel_rfl) (h := ?_)
    refine done_ (by kernel_rfl) ?_
    clear hHeld
    go_wp2_with fail
    go_ret
    exact ⟨by rw [show execTxt o m.1.length m.2.length = ((((o ++ (⟨#[116, 111, 110, 101, 115, 32]⟩ : ByteArray)) ++ d) ++ (⟨#[32, 101, 110, 116, 114, 105, 101, 115, 32]⟩ : ByteArray)) ++ z) ++ (⟨#[10]⟩ : ByteArray) by rw [HD.out, HZ.out]; rfl]; rfl, HB1.out⟩

def okB : ByteArray := ⟨#[111, 107]⟩
def noB : ByteArray := ⟨#[110, 111]⟩
def saidB (ok : Bool) : ByteArray := if ok = true then okB else noB
set_option maxHeartbeats 4000000 in
set_option maxRecDepth 100000 in
theorem become_any (base g : Nat) (m : St) (r : List S49) (v : Value) (ok : Bool) (w : World) (hs : Ses base w g m) (ho : Kd.R k49 49 w base (fun _ => True) v r) :
  Calls Tryz.prog 86 #[.pointer (some ⟨g, 0, none⟩), v, .bool ok] w fun e w' => e = .returned (.string (saidB ok)) ∧ Kb w w' g ∧ Ses base w' g (if ok = true then (r, m.2) else m) := by
 obtain ⟨A, c, rfl⟩ := Kd.R_slice ho
 cases ok with
 | false =>
  have HS := am hs
  clear hs ho
  go_enter Tryz.func86, Tryz.ntmps86
  go_wp2_with fail
  go_ret
  exact ⟨rfl, Kb.refl _ _, HS.out⟩
 | true =>
  obtain ⟨A0, c0, A1, c1, hb, hg, _, hT⟩ := hs
  have HT := am hT
  clear hT
  have HO := am ho
  have HBL := am hb
  have q0 : w.cell? ⟨g, 0, none⟩ = some (.slice A0 m.1.length c0) := (blk_cell hb 0).trans rfl
  have qf := fun i => blk_frozen hb i
  clear hb ho
  go_enter Tryz.func86, Tryz.ntmps86
  go_wp2_with fail
  go_ret
  exact ⟨rfl, (Kb.refl _ _).set_g 0 _, A, c, A1, c1, blk_put (cs' := #[.slice A r.length c, .slice A1 m.2.length c1]) HBL.out 0 _ rfl, hg, fun _ => Kd.R_mono (Kd.R_far (Kd.R_types HO.out HBL.out (by decide)) (p := ⟨g, 0, none⟩) (fun _ hk => hk.2) _) (fun _ _ => trivial), fun hm => Kd.R_mono (Kd.R_far (Kd.R_types (HT.out hm) HBL.out (by decide)) (p := ⟨g, 0, none⟩) (fun _ hk => hk.2) _) (fun _ _ => trivial)⟩
def joinT (xs : List ByteArray) : ByteArray := ⟨(Lib.join (xs.map (·.data.toList)) [32]).toArray⟩
theorem mf_small {n : Nat} {s : ByteArray} {p : List S49 × Bool} (h : impl_MelodyFrom.f n s = some p) : s.size < 4294967281 := by
 unfold impl_MelodyFrom.f at h
 split at h
 ·assumption
 ·exact absurd h (by simp)
set_option maxHeartbeats 4000000 in
set_option maxRecDepth 100000 in
theorem runMelody_any (n base g b : Nat) (m : St) (r : List S49) (ok : Bool) (ws : List ByteArray) (w : World) (hTL : TabL w) (hTM : TabM w) (hs : Ses base w g m) (hbw : base ≤ w.heap.size) (hr : w.heap[b]? = some (.cells (ws.map Value.string).toArray 9 (0, 0))) (h1 : 1 ≤ ws.length) (hl : ws.length < 4294967296) (h : impl_MelodyFrom.f n (joinT ws.tail) = some (r, ok)) :
  Calls Tryz.prog 63 #[.pointer (some ⟨g, 0, none⟩), .slice (if ws.length = 1 then some ⟨b, 0, none⟩ else some ⟨b, 1, none⟩) (ws.length - 1) (ws.length - 1)] w fun e w' => e = .returned (.string (saidB ok)) ∧ Kb w w' g ∧ Ses base w' g (if ok = true then (r, m.2) else m) := by
 obtain ⟨rr, hrr⟩ : ∃ rr, rr = (if ok = true then (r, m.2) else m) := ⟨_, rfl⟩
 rw [← hrr]
 have HRR := am hrr
 clear hrr
 have HTL := am hTL
 have HTM := am hTM
 have HS := am hs
 have HBW := am hbw
 have HR := am hr
 have H := am h
 have HSZ := am (mf_small h)
 obtain ⟨A, hA⟩ : ∃ A : Option Addr, A = (if ws.length = 1 then some ⟨b, 0, none⟩ else some ⟨b, 1, none⟩) := ⟨_, rfl⟩
 rw [← hA]
 obtain ⟨nl, hnl⟩ : ∃ nl, nl = ws.length - 1 := ⟨_, rfl⟩
 rw [← hnl]
 have HA := am hA
 have HN := am hnl
 have H1 := am h1
 have HL := am hl
 clear hTL hTM hs hbw hr h hA hnl h1 hl
 go_enter Tryz.func63, Tryz.ntmps63
 go_wp2_with fail
 have hj : Calls Tryz.prog 23 #[.slice A nl nl, .string ⟨#[32]⟩] w fun e w' => e = .returned (.string (joinT ws.tail)) ∧ Below w.heap.size w w' := by
  have htl : ws.tail.length = nl := by rw [HN.out, List.length_tail]
  by_cases h0 : nl = 0
  ·have e0 : ws.tail = [] := List.eq_nil_of_length_eq_zero (by omega)
   rw [h0, e0]
   refine (Tryz.strings_Join_none A 0 ⟨#[32]⟩ w).mono ?_
   rintro e w' ⟨rfl, rfl⟩
   exact ⟨rfl, Below.refl _ _⟩
  ·have e1 : A = some ⟨b, 1, none⟩ := by rw [HA.out, if_neg (by have := HN.out; omega)]
   have hj := Tryz.strings_Join b 1 nl ws.tail ⟨#[32]⟩ w (fun j x hx => ?_) (blk_lt HR.out) (by have := HL.out; have := HN.out; omega) (by omega) (by have := HSZ.out; have e : (joinT ws.tail).size = (Lib.join (ws.tail.map (·.data.toList)) [32]).length := List.size_toArray; rw [e] at this; exact Nat.le_trans (Nat.le_of_lt this) (by decide))
   ·rw [htl] at hj
    rw [e1]
    exact hj
   ·rw [Nat.add_comm, blk_cell HR.out (j + 1)]
    have hx' : ws[j + 1]? = some x := by rw [← hx, List.getElem?_tail]
    simp [hx']
 refine hj.mono ?_
 rintro e w1 ⟨rfl, hb⟩
 have HTL1 := am (TabAt.below HTL.out hb)
 have HTM1 := am (TabM.below HTM.out hb)
 have HS1 := am (HS.out.below hb)
 have HK1 := am (Kb.of_below hb g)
 have HB1 := am (Nat.le_trans HBW.out hb.size)
 clear hb hj HTL HTM HS HBW HR
 go_wp2_with fail
 refine (impl_MelodyFrom.calls n (joinT ws.tail) r ok w1 HTL1.out HTM1.out H.out).mono ?_
 rintro e w2 ⟨v, rfl, ho, hb⟩
 have HS2 := am (HS1.out.below hb)
 have HK2 := am (HK1.out.trans (Kb.of_below hb g))
 have HO := am (Kd.R_lower ho HB1.out)
 clear hb ho HS1 HK1 HTL1 HTM1
 go_wp2_with fail
 refine (become_any base g m r v ok w2 HS2.out HO.out).mono ?_
 rintro e w3 ⟨rfl, hk, hs⟩
 have HS3 := am (show Ses base w3 g rr by rw [HRR.out]; exact hs)
 have HK3 := am (HK2.out.trans hk)
 clear hs hk
 go_wp2_with fail
 go_ret
 exact ⟨rfl, HK3.out, HS3.out⟩
theorem ses_cell {base : Nat} {W : World} {g : Nat} {m : St} (h : Ses base W g m) : ∃ A c, W.cell? ⟨g, 0, none⟩ = some (.slice A m.1.length c) ∧ Kd.C k49 W A m.1.length m.1 ∧ m.1.length ≤ c := by
 obtain ⟨A, c, A1, c1, hb, hg, hm, _⟩ := h
 by_cases h0 : m.1 = []
 ·rw [h0]
  exact ⟨A, c, (blk_cell hb 0).trans (by rw [h0]; rfl), ⟨rfl, by simp, fun h => absurd h (Nat.lt_irrefl 0)⟩, Nat.zero_le _⟩
 ·have hr := Kd.R_reads' (hm h0)
  exact ⟨A, c, (blk_cell hb 0).trans rfl, hr.2.2, hr.2.1⟩
theorem ses_cell1 {base : Nat} {W : World} {g : Nat} {m : St} (h : Ses base W g m) : ∃ A c, W.cell? ⟨g, 1, none⟩ = some (.slice A m.2.length c) ∧ Kd.C k127 W A m.2.length m.2 ∧ m.2.length ≤ c := by
 obtain ⟨_, _, A, c, hb, hg, _, hm⟩ := h
 by_cases h0 : m.2 = []
 ·rw [h0]
  exact ⟨A, c, (blk_cell hb 1).trans (by rw [h0]; rfl), ⟨rfl, by simp, fun h => absurd h (Nat.lt_irrefl 0)⟩, Nat.zero_le _⟩
 ·have hr := Kd.R_reads' (hm h0)
  exact ⟨A, c, (blk_cell hb 1).trans rfl, hr.2.2, hr.2.1⟩

/-! ### the tonary: a map of rows of entries -/
section
variable {w : World} {r c : Nat}
theorem mp_z (w : World) : (zeroValue 39).run Tryz.prog w = .ok (.slice none 0 0) w := by kernel_rfl
theorem mp_look0 (k : Int) (hb : w.heap[r]? = some (.map #[] c)) : (Instr.lookup 162 (.map (some r)) (.int .i64 k) false).run Tryz.prog w = .ok (.slice none 0 0) w := by
 have h1 : (getObj r).run Tryz.prog w = .ok (.map #[] c) w := Go.MapKept.run_getObj_map hb
 have h2 : (Instr.checkKey true 10000 3 (.int .i64 k)).run Tryz.prog w = .ok () w := Go.MapKept.run_checkKey (n := 9999) Tryz.underlying3 (show Go.MapKept.IsKey (.int .i64) (.int .i64 k) by simp [Go.MapKept.IsKey]) true
 have h3 : (Instr.findKey 3 (.int .i64 k) []).run Tryz.prog w = .ok none w := Go.MapKept.run_findKey Tryz.underlying3 rfl
 simp [Instr.lookup, run_underlying Tryz.underlying162, h1, h2, h3, mp_z, Result.andThen]
theorem mp_hit (k : Int) (v : Value) (b : Nat) (hb : w.heap[r]? = some (.map #[⟨.int .i64 k, v, b⟩] c)) : (Instr.lookup 162 (.map (some r)) (.int .i64 k) false).run Tryz.prog w = .ok v w := by
 have h1 : (getObj r).run Tryz.prog w = .ok (.map #[⟨.int .i64 k, v, b⟩] c) w := Go.MapKept.run_getObj_map hb
 have h2 : (Instr.checkKey false 10000 3 (.int .i64 k)).run Tryz.prog w = .ok () w := Go.MapKept.run_checkKey (n := 9999) Tryz.underlying3 (show Go.MapKept.IsKey (.int .i64) (.int .i64 k) by simp [Go.MapKept.IsKey]) false
 have h3 : (Instr.findKey 3 (.int .i64 k) [⟨.int .i64 k, v, b⟩]).run Tryz.prog w = .ok (some (0, v)) w := Go.MapKept.run_findKey Tryz.underlying3 (by simp [Instr.findNow, Instr.sameNow])
 simp [Instr.lookup, run_underlying Tryz.underlying162, h1, h2, h3, mp_z, Result.andThen]
theorem mp_miss (k k' : Int) (v : Value) (b : Nat) (hne : k ≠ k') (hb : w.heap[r]? = some (.map #[⟨.int .i64 k', v, b⟩] c)) : (Instr.lookup 162 (.map (some r)) (.int .i64 k) false).run Tryz.prog w = .ok (.slice none 0 0) w := by
 have h1 : (getObj r).run Tryz.prog w = .ok (.map #[⟨.int .i64 k', v, b⟩] c) w := Go.MapKept.run_getObj_map hb
 have h2 : (Instr.checkKey false 10000 3 (.int .i64 k)).run Tryz.prog w = .ok () w := Go.MapKept.run_checkKey (n := 9999) Tryz.underlying3 (show Go.MapKept.IsKey (.int .i64) (.int .i64 k) by simp [Go.MapKept.IsKey]) false
 have h3 : (Instr.findKey 3 (.int .i64 k) [⟨.int .i64 k', v, b⟩]).run Tryz.prog w = .ok none w := Go.MapKept.run_findKey Tryz.underlying3 (by simp [Instr.findNow, Instr.sameNow, beq_false_of_ne hne])
 simp [Instr.lookup, run_underlying Tryz.underlying162, h1, h2, h3, mp_z, Result.andThen]
def setM (w : World) (r : Nat) (o : Obj) : World := { w with heap := w.heap.setIfInBounds r o }
theorem mp_put (k : Int) (v : Value) (hb : w.heap[r]? = some (.map #[] c)) : (Instr.mapUpdate 162 (.map (some r)) (.int .i64 k) v).run Tryz.prog w = .ok () (setM w r (.map #[⟨.int .i64 k, v, c⟩] (c + 1))) := by
 have h1 : (getObj r).run Tryz.prog w = .ok (.map #[] c) w := Go.MapKept.run_getObj_map hb
 have h2 : (Instr.checkKey false 10000 3 (.int .i64 k)).run Tryz.prog w = .ok () w := Go.MapKept.run_checkKey (n := 9999) Tryz.underlying3 (show Go.MapKept.IsKey (.int .i64) (.int .i64 k) by simp [Go.MapKept.IsKey]) false
 have h3 : (Instr.findKey 3 (.int .i64 k) []).run Tryz.prog w = .ok none w := Go.MapKept.run_findKey Tryz.underlying3 rfl
 have h4 := Go.MapKept.run_setObj_map (P := Tryz.prog) (.map #[⟨.int .i64 k, v, c⟩] (c + 1)) hb
 simp [Instr.mapUpdate, run_underlying Tryz.underlying162, h1, h2, h3, h4, setM, Result.andThen]
theorem setM_heap {o o' : Obj} (hb : w.heap[r]? = some o) : (setM w r o').heap[r]? = some o' ∧ ∀ k, k ≠ r → (setM w r o').heap[k]? = w.heap[k]? := Go.MapKept.heap_set hb
theorem setM_size (o : Obj) : (setM w r o).heap.size = w.heap.size := by simp [setM]
theorem setM_below {B : Nat} {w0 : World} {o o' : Obj} (h : Below B w0 w) (hr : B ≤ r) (hb : w.heap[r]? = some o) : Below B w0 (setM w r o') := ⟨h.os, h.tape, h.output, by rw [setM_size]; exact h.size, fun k hk => by rw [(setM_heap hb).2 k (by omega)]; exact h.block k hk⟩
end
theorem infoEn : (Tryz.prog.info? 127).map (fun i => (i.zero, i.size, i.bytes)) = some (some (.agg #[.string ⟨#[]⟩, .int .i64 0, .slice none 0 0]), 3, 48) := by kernel_rfl
theorem R_setM {α : Type} {d : Kd α} {e : Nat} {W : World} {base : Nat} {v : Value} {xs : List α} {r c : Nat} {es : Array MapEntry} {o : Obj} (h : d.R e W base (fun _ => True) v xs) (hb : W.heap[r]? = some (.map es c)) : d.R e (setM W r o) base (fun _ => True) v xs :=
 Kd.R_mono (Kd.R_move (Kd.R_bound h) (fun k hk => (setM_heap hb).2 k (by
  rintro rfl
  obtain ⟨_, _, _, q, _, cells, hc⟩ := hk
  rw [hb] at hc
  cases hc))) (fun _ _ => trivial)
def Mp0 (W : World) (r : Nat) : Prop := W.heap[r]? = some (.map #[] 0)
def Mp1 (base : Nat) (W : World) (r : Nat) (e : S127) : Prop := ∃ v, W.heap[r]? = some (.map #[⟨.int .i64 e.f1, v, 0⟩] 1) ∧ Kd.R k127 127 W base (fun _ => True) v [e]
set_option maxHeartbeats 4000000 in
set_option maxRecDepth 100000 in
theorem tonOf_nil (A : Option Addr) (c : Nat) (w : World) :
  Calls Tryz.prog 121 #[.slice A 0 c] w fun e w' => ∃ r, e = .returned (.tuple #[.map (some r), .bool true]) ∧ w.heap.size ≤ r ∧ Mp0 w' r ∧ Below w.heap.size w w' := by
 have hmm := @run_makeMap Tryz.prog
 have HB := am (below_alloc (Below.refl w.heap.size w) (.map #[] 0))
 have HG := am (blk_new w (.map #[] 0))
 go_enter Tryz.func121, Tryz.ntmps121
 go_wp2_with fail
 go_loopg [13] 1 (fun kq v13 w' => v13 = .int .i64 0 ∧ w' = w.alloc (.map #[] 0))
 case atStart => exact ⟨rfl, rfl⟩
 case round =>
  obtain ⟨rfl, rfl⟩ := hrel
  go_wp2_with fail
  go_ret2
  exact ⟨_, rfl, Nat.le_refl _, HG.out, HB.out⟩
set_option maxHeartbeats 8000000 in
set_option maxRecDepth 100000 in
theorem tonOf_one (n : Nat) (A : Option Addr) (c : Nat) (e : S127) (w : World) (hC : Kd.C k127 w A 1 [e]) (hTD : TabD w) (hv : impl_Entry_valid.f n e.f0 e.f1 e.f2 = some true) (hl : e.f2.length ≤ 24) :
  Calls Tryz.prog 121 #[.slice A 1 c] w fun x w' => ∃ r, x = .returned (.tuple #[.map (some r), .bool true]) ∧ w.heap.size ≤ r ∧ Mp1 w.heap.size w' r e ∧ Below w.heap.size w w' := by
 have hmm := @run_makeMap Tryz.prog
 have hue := Tryz.underlying127
 have HC := am hC
 have HTD : Aside0 (TabD w) := ⟨hTD⟩
 have HV := am hv
 have HL := am hl
 have HB0 := am (below_alloc (Below.refl w.heap.size w) (.map #[] 0))
 have HG0 := am (blk_new w (.map #[] 0))
 obtain ⟨gm, hgm⟩ : ∃ gm, gm = w.heap.size := ⟨_, rfl⟩
 have HGM := am hgm
 clear hC hTD hv hl
 go_enter Tryz.func121, Tryz.ntmps121
 go_wp2_with fail
 rw [← hgm] at HG0 ⊢
 clear hgm
 generalize w.alloc (.map #[] 0) = W0 at HB0 HG0 ⊢
 go_loopg [13] 2 (fun kq v13 w' => ∃ i : Nat, v13 = .int .i64 (i : Int) ∧ Aside0 (kq = 2 - i) ∧ ((i = 0 ∧ w' = W0) ∨ (i = 1 ∧ Mp1 w.heap.size w' gm e ∧ Below w.heap.size w w')))
 case atStart => exact ⟨0, rfl, ⟨rfl⟩, .inl ⟨rfl, rfl⟩⟩
 case round =>
  obtain ⟨i, rfl, HI, hor⟩ := hrel
  rcases hor with ⟨rfl, rfl⟩ | ⟨rfl, hM, hB⟩
  ·obtain ⟨ad, A2, c2, e1, k0, k1, k2, l2, g2⟩ := at_T127 (Kd.C_below HC.out HB0.out) 0 (by omega) (by omega)
   cases e1
   simp only [Int.toNat_zero, Nat.zero_mul] at k0 k1 k2
   rw [show ad.add 0 = ad from by cases ad; rfl] at k0 k1 k2
   rw [show rd_T127 [e] 0 = e from rfl] at k0 k1 k2 l2 g2
   have HL2 := am l2
   have HG2 := am g2
   clear l2 g2
   go_upto_region 7 with fail
   have HE1 := am (blk_new wr (.cells #[.string e.f0, .int .i64 e.f1, .slice A2 e.f2.length c2] 127))
   have HB1 := am (below_alloc HB0.out (.cells #[.string e.f0, .int .i64 e.f1, .slice A2 e.f2.length c2] 127))
   have HG1 := am (blk_alloc HG0.out (.cells #[.string e.f0, .int .i64 e.f1, .slice A2 e.f2.length c2] 127))
   have HC1 := am (Kd.C_below HG2.out (below_alloc (Below.refl _ _) (.cells #[.string e.f0, .int .i64 e.f1, .slice A2 e.f2.length c2] 127)))
   obtain ⟨ge, hge⟩ : ∃ ge, ge = wr.heap.size := ⟨_, rfl⟩
   rw [← hge] at HE1 ⊢
   clear hge k0 k1 k2 HG2 HG0 HB0
   generalize wr.alloc (.cells #[.string e.f0, .int .i64 e.f1, .slice A2 e.f2.length c2] 127) = W1 at HE1 HB1 HG1 HC1 ⊢
   have q0 : W1.cell? ⟨ge, 0, none⟩ = some (.string e.f0) := blk_cell HE1.out 0
   have q1 : W1.cell? ⟨ge, 1, none⟩ = some (.int .i64 e.f1) := blk_cell HE1.out 1
   have q2 : W1.cell? ⟨ge, 2, none⟩ = some (.slice A2 e.f2.length c2) := blk_cell HE1.out 2
   go_wp2_with fail
   refine (impl_Entry_valid.calls n e.f0 e.f1 A2 c2 e.f2 true _ HC1.out HL2.out (TabD.below HTD.out HB1.out) HV.out).mono ?_
   rintro x w2 ⟨rfl, hb⟩
   have HE2 := am (blk_below HE1.out hb)
   have HB2 := am (below_step HB1.out hb)
   have HG2 := am (blk_below HG1.out hb)
   have HC2 := am (Kd.C_below HC1.out hb)
   clear hb q0 q1 q2 HE1 HB1 HG1 HC1
   go_wp2_with fail
   go_quiet (fail)
   have HE6 := am (blk_drewN HE2.out nq)
   have HB6 := am (pw_below_drewN HB2.out nq)
   have HG6 := am (blk_drewN HG2.out nq)
   have HC6 := am (Kd.C_below HC2.out (pw_below_drewN (Below.refl _ _) nq))
   clear HE2 HB2 HG2 HC2
   generalize w2.drewN nq = W3 at HE6 HB6 HG6 HC6 ⊢
   go_wp2_with fail
   have HE3 := am (blk_drew HE6.out)
   have HB3 := am (below_drew1 HB6.out)
   have HG3 := am (blk_drew HG6.out)
   have HC3 := am (Kd.C_below HC6.out (below_drew1 (Below.refl _ _)))
   clear HE6 HB6 HG6 HC6
   have HCP := am (show impl_Entry_copied.f e.f0 e.f1 e.f2 = some (e.f0, e.f1, e.f2) by unfold impl_Entry_copied.f impl_copiedTones.f; rw [if_pos HL.out]; rfl)
   refine start_ (n := 12) (S := fun w' => w'.cell? ⟨ge, 0, none⟩ = some (.string e.f0) ∧ w'.cell? ⟨ge, 1, none⟩ = some (.int .i64 e.f1) ∧ w'.cell? ⟨ge, 2, none⟩ = some (.slice A2 e.f2.length c2) ∧ (Instr.lookup 162 (.map (some gm)) (.int .i64 e.f1) false).run Tryz.prog w' = .ok (.slice none 0 0) w') (ds := [11]) #[F,F,F,F,F,F,F,F,F,F,F,F] (by kernel_rfl) rfl rfl ⟨blk_cell HE3.out 0, blk_cell HE3.out 1, blk_cell HE3.out 2, mp_look0 _ HG3.out⟩ (fun hHeld => ?_)
   refine pz 0 (some 56) #[T,F,F,F,F,F,F,F,F,F,F,F] (by kernel_rfl) (h := ?_)
   refine pz 1 (some 57) #[T,T,F,F,F,F,F,F,F,F,F,F] (by kernel_rfl) (h := ?_)
   refine pz 3 (some 59) #[T,T,F,T,F,F,F,F,F,F,F,F] (by kernel_rfl) (h := ?_)
   refine pz 4 (some 60) #[T,T,F,T,T,F,F,F,F,F,F,F] (by kernel_rfl) (h := ?_)
   refine tz hHeld 2 (some 58) #[T,T,T,T,T,F,F,F,F,F,F,F] (by kernel_rfl) (h := ?_)
   refine tz hHeld 5 (some 61) #[T,T,T,T,T,T,F,F,F,F,F,F] (by kernel_rfl) (h := ?_)
   refine tz hHeld 6 (some 62) #[T,T,T,T,T,T,T,F,F,F,F,F] (by kernel_rfl) (h := ?_)
   refine tz hHeld 7 (some 63) #[T,T,T,T,T,T,T,T,F,F,F,F] (by kernel_rfl) (h := ?_)
   refine one_ (i := 8) (N := some 64) #[T,T,T,T,T,T,T,T,T,F,F,F] rfl rfl (by kernel_rfl) (by decide) (fun K hK => ?_)
   refine goes_ Tryz.func125 (by kernel_rfl) rfl #[.agg #[.string e.f0, .int .i64 e.f1, .slice A2 e.f2.length c2]] (by rfl) rfl rfl (by (try simp only [List.map_toArray, List.map_cons, List.map_nil]); first | done | rfl) ?_
   with_reducible refine (impl_Entry_copied.calls e.f0 e.f1 A2 c2 e.f2 e.f0 e.f1 e.f2 _ HC3.out HL2.out HCP.out).mono ?_
   rintro x we ⟨v2, rfl, ho, hb⟩
   refine ⟨_, rfl, ?_⟩
   have HE4 := am (blk_below HE3.out hb)
   have HG4 := am (blk_below HG3.out hb)
   have HB4 := am (below_step HB3.out hb)
   have HO4 := am (Kd.R_lower ho HB3.out.size)
   clear hb ho HE3 HG3 HB3 HC3
   refine hK.out _ _ ⟨blk_cell HE4.out 0, blk_cell HE4.out 1, blk_cell HE4.out 2, mp_look0 _ HG4.out⟩ (fun hHeld => ?_)
   clear hK K
   refine norm_ (a' := ?_) ?_ ?_
   rotate_left
   ·show Act.put _ (some 64) _ = _
    simp only [Act.put, sA, sZ, sS, i64_w, i32_w]
    rfl
   obtain ⟨Ao, co, rfl⟩ := Kd.R_slice HO4.out
   refine one_ (i := 9) (N := some 65) #[T,T,T,T,T,T,T,T,T,T,F,F] rfl rfl (by kernel_rfl) (by decide) (fun K hK => ?_)
   refine value_ (w1 := ?_) (v := ?_) (by rfl) rfl ?_ ?_
   rotate_left 2
   ·go_simp
    constructor
    ·rfl
    ·rfl
   refine hK.out _ _ ⟨blk_cell (blk_alloc HE4.out _) 0, blk_cell (blk_alloc HE4.out _) 1, blk_cell (blk_alloc HE4.out _) 2, mp_look0 _ (blk_alloc HG4.out _)⟩ (fun hHeld => ?_)
   clear hK K
   refine norm_ (a' := ?_) ?_ ?_
   rotate_left
   ·show Act.put _ (some 65) _ = _
    simp only [Act.put, sA, sZ, sS, i64_w, i32_w]
    rfl
   refine one_ (i := 10) (N := some 66) #[T,T,T,T,T,T,T,T,T,T,T,F] rfl rfl (by kernel_rfl) (by decide) (fun K hK => ?_)
   refine Kd.R_append_step k127 (w0 := w) w.heap.size (by rfl) (.tmp 62) (.tmp 65) 39 127 (.agg #[.string ⟨#[]⟩, .int .i64 0, .slice none 0 0]) 48 rfl Tryz.underlying39 infoEn rfl (by decide) (by omega) (.slice none 0 0) [] e [.string e.f0, .int .i64 e.f1, .slice Ao e.f2.length co] (fun _ => True) (fun _ => True) rfl rfl (k127_mkM _ _ _ e HO4.out) (fun k _ => ⟨trivial, by simp [Value.ownBlock]⟩) (fun _ _ => trivial) (Kd.R_nil _ _ _ _ _) HB4.out HB4.out.size (by simp) ?_
   intro v1 w1 HR1 HB5 HGR HAT
   have HG5 := am (blk_grown HG4.out HGR (by simp [Value.ownBlock]))
   have HE5 := am (blk_grown HE4.out HGR (by simp [Value.ownBlock]))
   replace HR1 := am HR1
   replace HB5 := am HB5
   clear HGR HAT HE4 HG4 HB4 HO4
   refine hK.out _ _ ⟨blk_cell HE5.out 0, blk_cell HE5.out 1, blk_cell HE5.out 2, mp_look0 _ HG5.out⟩ (fun hHeld => ?_)
   clear hK K
   refine norm_ (a' := ?_) ?_ ?_
   rotate_left
   ·show Act.put _ (some 66) _ = _
    simp only [Act.put, sA, sZ, sS, i64_w, i32_w]
    rfl
   have hput := mp_put e.f1 v1 HG5.out
   clear hHeld
   refine last_ (i := 11) (N := none) #[T,T,T,T,T,T,T,T,T,T,T,T] rfl rfl (by kernel_rfl) (by decide) (fun K hK => ?_)
   refine skip_ (w1 := ?_) (by rfl) rfl ?_ ?_
   rotate_left
   ·go_simp
    rfl
   refine hK.out _ _ ?_
   clear hK K
   refine done_ (by kernel_rfl) ?_
   clear hput
   have hgm2 : w.heap.size ≤ gm := by have := HGM.out; omega
   have HM := am (show Mp1 w.heap.size (setM w1 gm (.map #[⟨.int .i64 e.f1, v1, 0⟩] (0 + 1))) gm e from ⟨v1, (setM_heap HG5.out).1, R_setM HR1.out HG5.out⟩)
   have HB7 := am (show Below w.heap.size w (setM w1 gm (.map #[⟨.int .i64 e.f1, v1, 0⟩] (0 + 1))) from setM_below HB5.out hgm2 HG5.out)
   clear HR1 HB5 HG5 HE5 hgm2
   generalize setM w1 gm (.map #[⟨.int .i64 e.f1, v1, 0⟩] (0 + 1)) = W7 at HM HB7 ⊢
   go_wp2_with fail
   go_roundg 1
   case measure => have := HI.out; omega
   case rel => exact ⟨1, rfl, ⟨rfl⟩, .inr ⟨rfl, HM.out, HB7.out⟩⟩
  ·have HM := am hM
   have HB := am hB
   clear hM hB
   go_wp2_with fail
   go_ret2
   exact ⟨gm, rfl, by have := HGM.out; omega, HM.out, HB.out⟩
/-! ### find -/
set_option maxHeartbeats 4000000 in
set_option maxRecDepth 100000 in
theorem bs_nil (A : Option Addr) (c : Nat) (name : ByteArray) (w : World) :
  Calls Tryz.prog 143 #[.slice A 0 c, .string name, .func (.func 144) #[] #[]] w fun e w' => e = .returned (.tuple #[.int .i64 0, .bool false]) ∧ Below w.heap.size w w' := by
 have HB := am (Below.refl w.heap.size w)
 go_enter Tryz.func143, Tryz.ntmps143
 go_wp2_with fail
 go_loopg [9, 10] 1 (fun kq v9 v10 w' => v9 = .int .i64 0 ∧ v10 = .int .i64 0 ∧ w' = w)
 case atStart => exact ⟨rfl, rfl, rfl⟩
 case round =>
  obtain ⟨rfl, rfl, rfl⟩ := hrel
  go_wp2_with fail
  go_ret2
  exact ⟨rfl, HB.out⟩
theorem cmp_self : ∀ l : List UInt8, Lib.compareBytes l l = 0
 | [] => rfl
 | a :: l => by
  unfold Lib.compareBytes
  rw [if_neg (by simp), if_neg (by simp)]
  exact cmp_self l
set_option maxHeartbeats 4000000 in
set_option maxRecDepth 100000 in
theorem cmp_any (e : S127) (v : Value) (name : ByteArray) (w : World) (x : Int) (hx : Lib.compareBytes e.f0.data.toList name.data.toList = x) :
  Calls Tryz.prog 144 #[.agg #[.string e.f0, .int .i64 e.f1, v], .string name] w fun z w' => z = .returned (.int .i64 x) ∧ Below w.heap.size w w' := by
 have hue := Tryz.underlying127
 have HX := am hx
 clear hx
 have HB := am (below_alloc (Below.refl w.heap.size w) (.cells #[.string e.f0, .int .i64 e.f1, v] 127))
 go_enter Tryz.func144, Tryz.ntmps144
 go_wp2_with fail
 refine (Tryz.strings_Compare e.f0 name _).mono ?_
 rintro z w1 ⟨rfl, rfl⟩
 rw [HX.out]
 go_wp2_with fail
 go_ret
 exact ⟨rfl, HB.out⟩
set_option maxHeartbeats 4000000 in
set_option maxRecDepth 100000 in
theorem bs_hit (ad : Addr) (c : Nat) (e : S127) (w : World) (hC : Kd.C k127 w (some ad) 1 [e]) :
  Calls Tryz.prog 143 #[.slice (some ad) 1 c, .string e.f0, .func (.func 144) #[] #[]] w fun x w' => x = .returned (.tuple #[.int .i64 0, .bool true]) ∧ Below w.heap.size w w' := by
 have HC := am hC
 have HB := am (Below.refl w.heap.size w)
 clear hC
 go_enter Tryz.func143, Tryz.ntmps143
 go_wp2_with fail
 go_loopg [9, 10] 2 (fun kq v9 v10 w' => v9 = .int .i64 0 ∧ ∃ j : Nat, v10 = .int .i64 (j : Int) ∧ Aside0 (kq = j + 1 ∧ j ≤ 1) ∧ Aside0 (Below w.heap.size w w'))
 case atStart => exact ⟨rfl, 1, rfl, ⟨rfl, Nat.le_refl _⟩, HB⟩
 case round =>
  obtain ⟨rfl, j, rfl, HJ, HB1⟩ := hrel
  have hj : j = 0 ∨ j = 1 := by have := HJ.out; omega
  have HC1 := am (Kd.C_below HC.out HB1.out)
  clear HB
  obtain ⟨ad', A2, c2, e1, k0, k1, k2, l2, g2⟩ := at_T127 HC1.out 0 (by omega) (by omega)
  cases e1
  simp only [Int.toNat_zero, Nat.zero_mul] at k0 k1 k2
  rw [show ad.add 0 = ad from by cases ad; rfl] at k0 k1 k2
  rw [show rd_T127 [e] 0 = e from rfl] at k0 k1 k2 l2 g2
  clear l2 g2
  rcases hj with rfl | rfl
  ·go_wp2_with fail
   refine (cmp_any e _ e.f0 _ 0 (cmp_self _)).mono ?_
   rintro z w1 ⟨rfl, hb⟩
   have HB2 := am (below_step HB1.out hb)
   clear hb HB1 HC1
   go_wp2_with fail
   go_ret2
   exact ⟨rfl, HB2.out⟩
  ·go_wp2_with fail
   refine (cmp_any e _ e.f0 _ 0 (cmp_self _)).mono ?_
   rintro z w1 ⟨rfl, hb⟩
   have HB2 := am (below_step HB1.out hb)
   clear hb HB1 HC1
   go_wp2_with fail
   go_roundg 1
   case measure => have := HJ.out; omega
   case rel => exact ⟨rfl, 0, rfl, ⟨rfl, by omega⟩, HB2⟩
set_option maxHeartbeats 4000000 in
set_option maxRecDepth 100000 in
theorem find_nil (r : Nat) (k : Int) (name : ByteArray) (w : World) (hM : Mp0 w r) :
  Calls Tryz.prog 123 #[.map (some r), .int .i64 k, .string name] w fun e w' => e = .returned (.tuple #[.int .i64 0, .bool false]) ∧ Below w.heap.size w w' := by
 have hlk := mp_look0 k hM
 clear hM
 go_enter Tryz.func123, Tryz.ntmps123
 go_wp2_with fail
 refine (bs_nil none 0 name w).mono ?_
 rintro z w1 ⟨rfl, hb⟩
 have HB := am hb
 clear hb
 go_wp2_with fail
 go_ret2
 exact ⟨rfl, HB.out⟩
set_option maxHeartbeats 4000000 in
set_option maxRecDepth 100000 in
theorem find_hit (base r : Nat) (e : S127) (w : World) (hM : Mp1 base w r e) :
  Calls Tryz.prog 123 #[.map (some r), .int .i64 e.f1, .string e.f0] w fun x w' => x = .returned (.tuple #[.int .i64 0, .bool true]) ∧ Below w.heap.size w w' := by
 obtain ⟨v, hb, ho⟩ := hM
 obtain ⟨A, c, rfl⟩ := Kd.R_slice ho
 obtain ⟨ad, rfl, _⟩ := (Kd.R_reads' ho).2.2.2.2 (by simp)
 have hlk := mp_hit e.f1 _ 0 hb
 have HO := am (Kd.R_reads' ho)
 clear hb ho
 go_enter Tryz.func123, Tryz.ntmps123
 go_wp2_with fail
 refine (bs_hit ad c e w HO.out.2.2).mono ?_
 rintro z w1 ⟨rfl, hb⟩
 have HB := am hb
 clear hb
 go_wp2_with fail
 go_ret2
 exact ⟨rfl, HB.out⟩
theorem below_grown0 {W W1 : World} (h : W.grownBy W1 none) : Below W.heap.size W W1 := ⟨h.os, h.tape, h.output, h.size, fun k hk => h.block k hk (by simp)⟩
set_option maxHeartbeats 4000000 in
set_option maxRecDepth 100000 in
theorem ins_nil (base : Nat) (A : Option Addr) (c : Nat) (e : S127) (w : World) (hbw : base ≤ w.heap.size) (h2 : Kd.R k127 127 w base (fun _ => True) (.slice A 1 c) [e]) :
  Calls Tryz.prog 124 #[.slice none 0 0, .int .i64 0, .slice A 1 c] w fun x w' => ∃ v1, x = .returned v1 ∧ Kd.R k127 127 w' base (fun _ => True) v1 [e] ∧ Below w.heap.size w w' := by
 have HRR := am (show ReadsRow (k127.M w base (fun k => True ∧ some k ≠ (Value.slice A 1 c).ownBlock)) k127.sz w A 1 [e] by
  obtain ⟨A', c', he, hl, hr⟩ := OwnRow.reads h2.2
  injection he with e1 e2 e3
  subst e1
  exact hr)
 have HBW := am hbw
 clear h2 hbw
 go_enter Tryz.func124, Tryz.ntmps124
 go_upto_region 7 with fail
 go_wp2_with ((with_reducible refine gate_builtin (b := .append) (xs := #[.tmp 23, .tmp 24]) rfl ?_); at_builtin; refine Kd.R_append_rows k127 (w0 := w) base rfl (.tmp 23) (.tmp 24) 39 127 (.agg #[.string ⟨#[]⟩, .int .i64 0, .slice none 0 0]) 48 rfl Tryz.underlying39 infoEn rfl (by decide) (by omega) (.slice none 0 0) [] [e] A 1 c (fun _ => True) (fun k => True ∧ some k ≠ (Value.slice A 1 c).ownBlock) rfl rfl (Kd.R_nil _ _ _ _ _) HRR.out (fun _ _ h => h) (fun k _ => ⟨trivial, by simp [Value.ownBlock]⟩) (fun _ _ => trivial) (Below.refl _ _) HBW.out (by simp) ?_; intro v1 w1 ho hb hg hat; have HO1 := am ho; have HB1 := am (below_grown0 hg); clear ho hb hg hat)
 go_ret
 exact ⟨_, rfl, HO1.out, HB1.out⟩
theorem mp_bd {base : Nat} {w : World} {r : Nat} {e : S127} (h : Mp1 base w r e) : ∃ v, w.heap[r]? = some (.map #[⟨.int .i64 e.f1, v, 0⟩] 1) ∧ Kd.R k127 127 w base (fun k => k < w.heap.size) v [e] := by
 obtain ⟨v, h1, h2⟩ := h
 exact ⟨v, h1, Kd.R_mono (Kd.R_bound h2) (fun k hk => hk.2.2.1)⟩
theorem own_next {N : Nat} {W : World} {v v1 : Value} (hN : ∀ k, v.ownBlock = some k → N ≤ k) (hs : N ≤ W.heap.size) (hat : v1.ownBlock = v.ownBlock ∨ ∃ b, v1.ownBlock = some b ∧ W.heap.size ≤ b) : ∀ k, v1.ownBlock = some k → N ≤ k := by
 intro k hk
 rcases hat with h | ⟨b, h, hb⟩
 ·exact hN k (h ▸ hk)
 ·rw [h] at hk
  cases hk
  omega
/-- what a list-up keeps: N the heap's size when it began -/
def Lp (base N : Nat) (W : World) (r : Nat) (e : S127) (v : Value) : Prop := W.heap[r]? = some (.map #[⟨.int .i64 e.f1, v, 0⟩] 1) ∧ Kd.R k127 127 W base (fun k => k < N) v [e]
theorem Lp.grown {base N : Nat} {W W1 : World} {r : Nat} {e : S127} {v v3 : Value} {xs : List S127} (h : Lp base N W r e v) (ho : Kd.R k127 127 W base (fun _ => True) v3 xs) (hN : ∀ k, v3.ownBlock = some k → N ≤ k) (hg : W.grownBy W1 v3.ownBlock) : Lp base N W1 r e v := by
 refine ⟨?_, Kd.R_grown h.2 hg (fun k hk e2 => by have := hN k e2.symm; omega)⟩
 have hlt : r < W.heap.size := (Array.getElem?_eq_some_iff.1 h.1).1
 rw [hg.block r hlt (fun e2 => ?_)]
 ·exact h.1
 ·obtain ⟨inner, hown⟩ := Kd.R_own ho
  obtain ⟨cells, hc⟩ := own_typed hown r e2.symm
  rw [h.1] at hc
  cases hc
theorem below_grownN {N : Nat} {W W1 : World} {row : Option Nat} (h : W.grownBy W1 row) (hN : ∀ k, row = some k → N ≤ k) (hs : N ≤ W.heap.size) : Below N W W1 := ⟨h.os, h.tape, h.output, h.size, fun k hk => h.block k (by omega) (fun e => by have := hN k e.symm; omega)⟩
set_option maxHeartbeats 8000000 in
set_option maxRecDepth 100000 in
theorem list_one (base r : Nat) (e : S127) (w : World) (hbw : base ≤ w.heap.size) (hM : Mp1 base w r e) (h1 : 1 ≤ e.f1) (h8 : e.f1 ≤ 8) :
  Calls Tryz.prog 126 #[.map (some r)] w fun x w' => ∃ v, x = .returned v ∧ Kd.R k127 127 w' base (fun _ => True) v [e] ∧ Below w.heap.size w w' := by
 obtain ⟨v, hb, ho⟩ := mp_bd hM
 obtain ⟨A0, c0, rfl⟩ := Kd.R_slice ho
 have HLP := am (show Lp base w.heap.size (w.alloc (.cells #[] 127)) r e (.slice A0 1 c0) from ⟨blk_alloc hb _, Kd.R_below ho (below_alloc (Below.refl _ _) _)⟩)
 have HB := am (below_alloc (Below.refl w.heap.size w) (.cells #[] 127))
 have HO := am (show Kd.R k127 127 (w.alloc (.cells #[] 127)) base (fun _ => True) (.slice (some ⟨w.heap.size, 0, none⟩) 0 0) [] from ms_empty _ _ _ trivial (blk_new w _) hbw)
 have HBW := am hbw
 have HE := am (And.intro h1 h8)
 clear hb ho hM hbw h1 h8
 go_enter Tryz.func126, Tryz.ntmps126
 go_wp2_with fail
 go_loopg [3, 4] 8 (fun kq v3 v4 w' => ∃ (i : Nat) (xs : List S127), v4 = .int .i64 ((i : Int) + 1) ∧ Aside0 (i ≤ 8 ∧ kq = 8 - i) ∧ Aside0 (xs = if e.f1 ≤ (i : Int) then [e] else []) ∧ Aside0 (Kd.R k127 127 w' base (fun _ => True) v3 xs) ∧ Aside0 (∀ k, v3.ownBlock = some k → w.heap.size ≤ k) ∧ Aside0 (Lp base w.heap.size w' r e (.slice A0 1 c0)) ∧ Aside0 (Below w.heap.size w w'))
 case atStart => exact ⟨0, [], rfl, ⟨by omega, rfl⟩, ⟨by rw [if_neg (by have := HE.out; omega)]⟩, HO, ⟨fun k hk => by simp [Value.ownBlock] at hk; omega⟩, HLP, HB⟩
 case round =>
  obtain ⟨i, xs, rfl, HI, HX, HO1, HN, HL, HB1⟩ := hrel
  clear HLP HB HO
  have hO := HO1.out
  obtain ⟨A3, c3, rfl⟩ := Kd.R_slice hO
  clear hO
  have HBS := am (Nat.le_trans HBW.out HB1.out.size)
  have HXL := am (show xs.length ≤ 1 by rw [HX.out]; split <;> simp)
  by_cases hi : i < 8
  ·have ww : wrap64 ((i : Int) + 1 + 1) = (((i + 1 : Nat) : Int) + 1) := by unfold wrap64; omega
   have p0 : ((i : Int) + 1 ≤ 8) = True := eq_true (by omega)
   have HI8 := am hi
   by_cases hk : e.f1 = (i : Int) + 1
   ·have hlk := mp_hit e.f1 (.slice A0 1 c0) 0 HL.out.1
    rw [hk] at hlk
    have HK := am hk
    clear hi hk
    have HRR := am (show ReadsRow (k127.M wr base (fun k => k < w.heap.size ∧ some k ≠ (Value.slice A0 1 c0).ownBlock)) k127.sz wr A0 1 [e] by
     obtain ⟨A', c', he, hl, hr⟩ := OwnRow.reads HL.out.2.2
     injection he with e1 e2 e3
     subst e1
     exact hr)
    go_upto_region 5 with fail
    go_wp2_with ((with_reducible refine gate_builtin (b := .append) (xs := #[.tmp 10, .tmp 13]) rfl ?_); at_builtin; refine Kd.R_append_rows k127 (w0 := wr) base rfl (.tmp 10) (.tmp 13) 39 127 (.agg #[.string ⟨#[]⟩, .int .i64 0, .slice none 0 0]) 48 rfl Tryz.underlying39 infoEn rfl (by decide) (by omega) (.slice A3 xs.length c3) xs [e] A0 1 c0 (fun _ => True) (fun k => k < w.heap.size ∧ some k ≠ (Value.slice A0 1 c0).ownBlock) rfl rfl HO1.out HRR.out (fun _ _ h => h) (fun k hk2 => ⟨trivial, fun e2 => by have := HN.out k e2.symm; have := hk2.1; omega⟩) (fun _ _ => trivial) (Below.refl _ _) HBS.out (by have := HXL.out; omega) ?_; intro v1 w1 ho hb hg hat; have HO2 := am ho; have HL2 := am (HL.out.grown HO1.out HN.out hg); have HN2 := am (own_next HN.out HB1.out.size hat); have HB2 := am (HB1.out.trans (below_grownN hg HN.out HB1.out.size)); clear ho hb hg hat HO1 HL HN HB1)
    go_wp2_with fail
    go_roundg (8 - (i + 1))
    case measure => have := HI.out; have := HI8.out; omega
    case rel =>
     refine ⟨i + 1, xs ++ [e], by rw [ww], ⟨by have := HI8.out; omega, rfl⟩, ⟨?_⟩, HO2, HN2, HL2, HB2⟩
     rw [HX.out, if_neg (by have := HK.out; omega), if_pos (by have := HK.out; omega)]
     rfl
   ·have hlk := mp_miss ((i : Int) + 1) e.f1 (.slice A0 1 c0) 0 (fun h => hk h.symm) HL.out.1
    have HK := am hk
    clear hi hk
    go_upto_region 5 with fail
    go_wp2_with ((with_reducible refine gate_builtin (b := .append) (xs := #[.tmp 10, .tmp 13]) rfl ?_); at_builtin; refine Kd.R_append_rows k127 (w0 := wr) base rfl (.tmp 10) (.tmp 13) 39 127 (.agg #[.string ⟨#[]⟩, .int .i64 0, .slice none 0 0]) 48 rfl Tryz.underlying39 infoEn rfl (by decide) (by omega) (.slice A3 xs.length c3) xs [] none 0 0 (fun _ => True) (fun _ => False) rfl rfl HO1.out (Rr := fun _ _ => False) ⟨rfl, by simp, fun h => absurd h (Nat.lt_irrefl 0)⟩ (fun _ _ h => h.elim) (fun _ h => h.elim) (fun _ _ => trivial) (Below.refl _ _) HBS.out (by have := HXL.out; omega) ?_; intro v1 w1 ho hb hg hat; have HO2 := am ho; have HL2 := am (HL.out.grown HO1.out HN.out hg); have HN2 := am (own_next HN.out HB1.out.size hat); have HB2 := am (HB1.out.trans (below_grownN hg HN.out HB1.out.size)); clear ho hb hg hat HO1 HL HN HB1)
    go_wp2_with fail
    go_roundg (8 - (i + 1))
    case measure => have := HI.out; have := HI8.out; omega
    case rel =>
     refine ⟨i + 1, xs ++ [], by rw [ww], ⟨by have := HI8.out; omega, rfl⟩, ⟨?_⟩, HO2, HN2, HL2, HB2⟩
     rw [HX.out, List.append_nil]
     by_cases hq : e.f1 ≤ (i : Int)
     ·rw [if_pos hq, if_pos (by omega)]
     ·rw [if_neg hq, if_neg (by have := HK.out; omega)]
  ·have p0 : ((i : Int) + 1 ≤ 8) = False := eq_false (by omega)
   have HXE := am (show xs = [e] by rw [HX.out, if_pos (by have := HE.out; omega)])
   clear hi
   go_wp2_with fail
   go_ret
   exact ⟨_, rfl, by rw [HXE.out] at HO1; rw [HXE.out]; exact HO1.out, HB1.out⟩
/-! ### TonaryAdd -/
theorem one_row {base : Nat} {W : World} {e : S127} {v2 : Value} (hO : Kd.R k49 49 W base (fun _ => True) v2 e.f2) (hb : base ≤ W.heap.size) : Kd.R k127 127 (W.alloc (.cells #[.string e.f0, .int .i64 e.f1, v2] 127)) base (fun _ => True) (.slice (some ⟨W.heap.size, 0, none⟩) 1 1) [e] := by
 have h1 := Kd.R_below (Kd.R_mono (Kd.R_bound hO) (ok' := fun k => True ∧ some k ≠ (Value.slice (some ⟨W.heap.size, 0, none⟩) 1 1).ownBlock) (fun k hk => ⟨trivial, by
  have := hk.2.2.1
  simp only [Value.ownBlock, ne_eq, Option.some.injEq]
  omega⟩)) (below_alloc (Below.refl _ _) (.cells #[.string e.f0, .int .i64 e.f1, v2] 127))
 refine ⟨fun _ _ => trivial, [.string e.f0, .int .i64 e.f1, v2], ⟨rfl, .inr ⟨W.heap.size, 1, #[.string e.f0, .int .i64 e.f1, v2], rfl, hb, blk_new W _, Nat.le_refl _, by simp [maxLen], rfl, rfl⟩⟩, rfl, fun j p hj => ?_⟩
 match j, hj with
 | 0, hj =>
  obtain rfl := Option.some.inj hj
  exact k127_mkM _ _ _ e h1
set_option maxHeartbeats 8000000 in
set_option maxRecDepth 100000 in
theorem add_new (n : Nat) (A : Option Addr) (c : Nat) (e : S127) (A2 : Option Addr) (c2 : Nat) (w : World) (hC : Kd.C k49 w A2 e.f2.length e.f2) (h2 : e.f2.length ≤ c2) (hTD : TabD w) (hv : impl_Entry_valid.f n e.f0 e.f1 e.f2 = some true) (hl : e.f2.length ≤ 24) (h1 : 1 ≤ e.f1) (h8 : e.f1 ≤ 8) :
  Calls Tryz.prog 98 #[.slice A 0 c, .agg #[.string e.f0, .int .i64 e.f1, .slice A2 e.f2.length c2]] w fun x w' => ∃ v, x = .returned (.tuple #[v, .bool true]) ∧ Kd.R k127 127 w' w.heap.size (fun _ => True) v [e] ∧ Below w.heap.size w w' := by
 have hue := Tryz.underlying127
 have HE0 := am (blk_new w (.cells #[.string e.f0, .int .i64 e.f1, .slice A2 e.f2.length c2] 127))
 have HB0 := am (below_alloc (Below.refl w.heap.size w) (.cells #[.string e.f0, .int .i64 e.f1, .slice A2 e.f2.length c2] 127))
 have HC0 := am (Kd.C_below hC (below_alloc (Below.refl _ _) (.cells #[.string e.f0, .int .i64 e.f1, .slice A2 e.f2.length c2] 127)))
 have HTD : Aside0 (TabD w) := ⟨hTD⟩
 have HV := am hv
 have HL := am hl
 have HL2 := am h2
 have HE18 := am (And.intro h1 h8)
 have HCP := am (show impl_Entry_copied.f e.f0 e.f1 e.f2 = some (e.f0, e.f1, e.f2) by unfold impl_Entry_copied.f impl_copiedTones.f; rw [if_pos hl]; rfl)
 obtain ⟨ge, hge⟩ : ∃ ge, ge = w.heap.size := ⟨_, rfl⟩
 have HGE := am hge
 clear hC hTD hv hl h2 h1 h8
 go_enter Tryz.func98, Tryz.ntmps98
 go_upto_region 1 with fail
 rw [← hge] at HE0 ⊢
 clear hge
 generalize w.alloc (.cells #[.string e.f0, .int .i64 e.f1, .slice A2 e.f2.length c2] 127) = W0 at HE0 HB0 HC0 ⊢
 go_wp2_with fail
 refine (tonOf_nil A c W0).mono ?_
 rintro x w1 ⟨r, rfl, hr, hM, hb⟩
 have HE1 := am (blk_below HE0.out hb)
 have HB1 := am (below_step HB0.out hb)
 have HC1 := am (Kd.C_below HC0.out hb)
 have HM1 := am hM
 have HR := am (show w.heap.size ≤ r from Nat.le_trans HB0.out.size hr)
 clear hb hM hr HE0 HB0 HC0
 have q0 : w1.cell? ⟨ge, 0, none⟩ = some (.string e.f0) := blk_cell HE1.out 0
 have q1 : w1.cell? ⟨ge, 1, none⟩ = some (.int .i64 e.f1) := blk_cell HE1.out 1
 have q2 : w1.cell? ⟨ge, 2, none⟩ = some (.slice A2 e.f2.length c2) := blk_cell HE1.out 2
 go_wp2_with fail
 refine (impl_Entry_valid.calls n e.f0 e.f1 A2 c2 e.f2 true _ HC1.out HL2.out (TabD.below HTD.out HB1.out) HV.out).mono ?_
 rintro x w2 ⟨rfl, hb⟩
 have HE2 := am (blk_below HE1.out hb)
 have HB2 := am (below_step HB1.out hb)
 have HC2 := am (Kd.C_below HC1.out hb)
 have HM2 := am (show Mp0 w2 r from blk_below HM1.out hb)
 clear hb q0 q1 q2 HE1 HB1 HC1 HM1
 have q0 : w2.cell? ⟨ge, 0, none⟩ = some (.string e.f0) := blk_cell HE2.out 0
 have q1 : w2.cell? ⟨ge, 1, none⟩ = some (.int .i64 e.f1) := blk_cell HE2.out 1
 go_wp2_with fail
 refine (find_nil r e.f1 e.f0 w2 HM2.out).mono ?_
 rintro x w3 ⟨rfl, hb⟩
 have HE6 := am (blk_below HE2.out hb)
 have HB6 := am (below_step HB2.out hb)
 have HC6 := am (Kd.C_below HC2.out hb)
 have HM6 := am (show Mp0 w3 r from blk_below HM2.out hb)
 clear hb q0 q1 HE2 HB2 HC2 HM2
 go_wp2_with fail
 have HE3 := am (blk_drew HE6.out)
 have HB3 := am (below_drew1 HB6.out)
 have HG3 := am (show w3.drew.heap[r]? = some (.map #[] 0) from blk_drew HM6.out)
 have HC3 := am (Kd.C_below HC6.out (below_drew1 (Below.refl _ _)))
 clear HE6 HB6 HM6 HC6
 refine start_ (n := 13) (S := fun w' => w'.cell? ⟨ge, 0, none⟩ = some (.string e.f0) ∧ w'.cell? ⟨ge, 1, none⟩ = some (.int .i64 e.f1) ∧ w'.cell? ⟨ge, 2, none⟩ = some (.slice A2 e.f2.length c2) ∧ (Instr.lookup 162 (.map (some r)) (.int .i64 e.f1) false).run Tryz.prog w' = .ok (.slice none 0 0) w') (ds := [12]) #[F,F,F,F,F,F,F,F,F,F,F,F,F] (by kernel_rfl) rfl rfl ⟨blk_cell HE3.out 0, blk_cell HE3.out 1, blk_cell HE3.out 2, mp_look0 _ HG3.out⟩ (fun hHeld => ?_)
 generalize w3.drew = wd at HE3 HB3 HG3 HC3 hHeld ⊢
 refine pz 0 (some 37) #[T,F,F,F,F,F,F,F,F,F,F,F,F] (by kernel_rfl) (h := ?_)
 refine pz 1 (some 38) #[T,T,F,F,F,F,F,F,F,F,F,F,F] (by kernel_rfl) (h := ?_)
 refine pz 3 (some 40) #[T,T,F,T,F,F,F,F,F,F,F,F,F] (by kernel_rfl) (h := ?_)
 refine pz 4 (some 41) #[T,T,F,T,T,F,F,F,F,F,F,F,F] (by kernel_rfl) (h := ?_)
 refine pz 7 (some 44) #[T,T,F,T,T,F,F,T,F,F,F,F,F] (by kernel_rfl) (h := ?_)
 refine tz hHeld 2 (some 39) #[T,T,T,T,T,F,F,T,F,F,F,F,F] (by kernel_rfl) (h := ?_)
 refine tz hHeld 5 (some 42) #[T,T,T,T,T,T,F,T,F,F,F,F,F] (by kernel_rfl) (h := ?_)
 refine tz hHeld 6 (some 43) #[T,T,T,T,T,T,T,T,F,F,F,F,F] (by kernel_rfl) (h := ?_)
 refine tz hHeld 8 (some 45) #[T,T,T,T,T,T,T,T,T,F,F,F,F] (by kernel_rfl) (h := ?_)
 refine one_ (i := 9) (N := some 46) #[T,T,T,T,T,T,T,T,T,T,F,F,F] rfl rfl (by kernel_rfl) (by decide) (fun K hK => ?_)
 refine goes_ Tryz.func125 (by kernel_rfl) rfl #[.agg #[.string e.f0, .int .i64 e.f1, .slice A2 e.f2.length c2]] (by rfl) rfl rfl (by (try simp only [List.map_toArray, List.map_cons, List.map_nil]); first | done | rfl) ?_
 with_reducible refine (impl_Entry_copied.calls e.f0 e.f1 A2 c2 e.f2 e.f0 e.f1 e.f2 _ HC3.out HL2.out HCP.out).mono ?_
 rintro x we ⟨v2, rfl, ho, hb⟩
 refine ⟨_, rfl, ?_⟩
 have HE4 := am (blk_below HE3.out hb)
 have HG4 := am (blk_below HG3.out hb)
 have HB4 := am (below_step HB3.out hb)
 have HO4 := am (Kd.R_lower ho HB3.out.size)
 clear hb ho HE3 HG3 HB3 HC3
 refine hK.out _ _ ⟨blk_cell HE4.out 0, blk_cell HE4.out 1, blk_cell HE4.out 2, mp_look0 _ HG4.out⟩ (fun hHeld => ?_)
 clear hK K
 refine norm_ (a' := ?_) ?_ ?_
 rotate_left
 ·show Act.put _ (some 46) _ = _
  simp only [Act.put, sA, sZ, sS, i64_w, i32_w]
  rfl
 obtain ⟨Ao, co, rfl⟩ := Kd.R_slice HO4.out
 refine one_ (i := 10) (N := some 47) #[T,T,T,T,T,T,T,T,T,T,T,F,F] rfl rfl (by kernel_rfl) (by decide) (fun K hK => ?_)
 refine value_ (w1 := ?_) (v := ?_) (by rfl) rfl ?_ ?_
 rotate_left 2
 ·go_simp
  constructor
  ·rfl
  ·rfl
 refine hK.out _ _ ⟨blk_cell (blk_alloc HE4.out _) 0, blk_cell (blk_alloc HE4.out _) 1, blk_cell (blk_alloc HE4.out _) 2, mp_look0 _ (blk_alloc HG4.out _)⟩ (fun hHeld => ?_)
 clear hK K
 refine norm_ (a' := ?_) ?_ ?_
 rotate_left
 ·show Act.put _ (some 47) _ = _
  simp only [Act.put, sA, sZ, sS, i64_w, i32_w]
  rfl
 have HRW := am (one_row HO4.out HB4.out.size)
 have HE9 := am (blk_alloc HE4.out (.cells #[.string e.f0, .int .i64 e.f1, .slice Ao e.f2.length co] 127))
 have HG9 := am (blk_alloc HG4.out (.cells #[.string e.f0, .int .i64 e.f1, .slice Ao e.f2.length co] 127))
 have HB9 := am (below_alloc HB4.out (.cells #[.string e.f0, .int .i64 e.f1, .slice Ao e.f2.length co] 127))
 obtain ⟨gs, hgs⟩ : ∃ gs, gs = we.heap.size := ⟨_, rfl⟩
 rw [← hgs] at HRW ⊢
 clear hgs HE4 HG4 HB4 HO4
 generalize we.alloc (.cells #[.string e.f0, .int .i64 e.f1, .slice Ao e.f2.length co] 127) = W9 at HRW HE9 HG9 HB9 hHeld ⊢
 refine one_ (i := 11) (N := some 48) #[T,T,T,T,T,T,T,T,T,T,T,T,F] rfl rfl (by kernel_rfl) (by decide) (fun K hK => ?_)
 refine goes_ Tryz.func124 (by kernel_rfl) rfl #[.slice none 0 0, .int .i64 0, .slice (some ⟨gs, 0, none⟩) 1 1] (by rfl) rfl rfl (by (try simp only [List.map_toArray, List.map_cons, List.map_nil]); first | done | rfl) ?_
 with_reducible refine (ins_nil w.heap.size (some ⟨gs, 0, none⟩) 1 e W9 HB9.out.size HRW.out).mono ?_
 rintro x we2 ⟨v1, rfl, ho, hb⟩
 refine ⟨_, rfl, ?_⟩
 have HE5 := am (blk_below HE9.out hb)
 have HG5 := am (blk_below HG9.out hb)
 have HB5 := am (below_step HB9.out hb)
 have HR1 := am ho
 clear hb ho HE9 HG9 HB9 HRW
 refine hK.out _ _ ⟨blk_cell HE5.out 0, blk_cell HE5.out 1, blk_cell HE5.out 2, mp_look0 _ HG5.out⟩ (fun hHeld => ?_)
 clear hK K
 refine norm_ (a' := ?_) ?_ ?_
 rotate_left
 ·show Act.put _ (some 48) _ = _
  simp only [Act.put, sA, sZ, sS, i64_w, i32_w]
  rfl
 have hput := mp_put e.f1 v1 HG5.out
 clear hHeld
 refine last_ (i := 12) (N := none) #[T,T,T,T,T,T,T,T,T,T,T,T,T] rfl rfl (by kernel_rfl) (by decide) (fun K hK => ?_)
 refine skip_ (w1 := ?_) (by rfl) rfl ?_ ?_
 rotate_left
 ·go_simp
  rfl
 refine hK.out _ _ ?_
 clear hK K
 refine done_ (by kernel_rfl) ?_
 clear hput
 have hM : Mp1 w.heap.size (setM we2 r (.map #[⟨.int .i64 e.f1, v1, 0⟩] (0 + 1))) r e := ⟨v1, (setM_heap HG5.out).1, R_setM HR1.out HG5.out⟩
 have HM7 := am hM
 have HB7 := am (show Below w.heap.size w (setM we2 r (.map #[⟨.int .i64 e.f1, v1, 0⟩] (0 + 1))) from setM_below HB5.out HR.out HG5.out)
 clear hM HR1 HB5 HG5 HE5
 generalize setM we2 r (.map #[⟨.int .i64 e.f1, v1, 0⟩] (0 + 1)) = W7 at HM7 HB7 ⊢
 go_wp2_with fail
 refine (list_one w.heap.size r e W7 HB7.out.size HM7.out HE18.out.1 HE18.out.2).mono ?_
 rintro x w8 ⟨v, rfl, ho, hb⟩
 have HO8 := am ho
 have HB8 := am (below_step HB7.out hb)
 clear ho hb HM7 HB7
 go_wp2_with fail
 go_ret2
 exact ⟨_, rfl, HO8.out, HB8.out⟩
set_option maxHeartbeats 8000000 in
set_option maxRecDepth 100000 in
theorem add_dup (n : Nat) (A : Option Addr) (c : Nat) (e : S127) (l : List S49) (A2 : Option Addr) (c2 : Nat) (w : World) (hT : Kd.C k127 w A 1 [e]) (hC : Kd.C k49 w A2 l.length l) (h2 : l.length ≤ c2) (hTD : TabD w) (hv : impl_Entry_valid.f n e.f0 e.f1 e.f2 = some true) (hl : e.f2.length ≤ 24) (hv2 : impl_Entry_valid.f n e.f0 e.f1 l = some true) :
  Calls Tryz.prog 98 #[.slice A 1 c, .agg #[.string e.f0, .int .i64 e.f1, .slice A2 l.length c2]] w fun x w' => x = .returned (.tuple #[.slice none 0 0, .bool false]) ∧ Below w.heap.size w w' := by
 have hue := Tryz.underlying127
 have HE0 := am (blk_new w (.cells #[.string e.f0, .int .i64 e.f1, .slice A2 l.length c2] 127))
 have HB0 := am (below_alloc (Below.refl w.heap.size w) (.cells #[.string e.f0, .int .i64 e.f1, .slice A2 l.length c2] 127))
 have HC0 := am (Kd.C_below hC (below_alloc (Below.refl _ _) (.cells #[.string e.f0, .int .i64 e.f1, .slice A2 l.length c2] 127)))
 have HT0 := am (Kd.C_below hT (below_alloc (Below.refl _ _) (.cells #[.string e.f0, .int .i64 e.f1, .slice A2 l.length c2] 127)))
 have HTD : Aside0 (TabD w) := ⟨hTD⟩
 have HV := am hv
 have HV2 := am hv2
 have HL := am hl
 have HL2 := am h2
 obtain ⟨ge, hge⟩ : ∃ ge, ge = w.heap.size := ⟨_, rfl⟩
 clear hC hT hTD hv hv2 hl h2
 go_enter Tryz.func98, Tryz.ntmps98
 go_upto_region 1 with fail
 rw [← hge] at HE0 ⊢
 clear hge
 generalize w.alloc (.cells #[.string e.f0, .int .i64 e.f1, .slice A2 l.length c2] 127) = W0 at HE0 HB0 HC0 HT0 ⊢
 go_wp2_with fail
 refine (tonOf_one n A c e W0 HT0.out (TabD.below HTD.out HB0.out) HV.out HL.out).mono ?_
 rintro x w1 ⟨r, rfl, hr, hM, hb⟩
 have HE1 := am (blk_below HE0.out hb)
 have HB1 := am (below_step HB0.out hb)
 have HC1 := am (Kd.C_below HC0.out hb)
 have HM1 := am hM
 clear hb hM hr HE0 HB0 HC0 HT0
 have q0 : w1.cell? ⟨ge, 0, none⟩ = some (.string e.f0) := blk_cell HE1.out 0
 have q1 : w1.cell? ⟨ge, 1, none⟩ = some (.int .i64 e.f1) := blk_cell HE1.out 1
 have q2 : w1.cell? ⟨ge, 2, none⟩ = some (.slice A2 l.length c2) := blk_cell HE1.out 2
 go_wp2_with fail
 refine (impl_Entry_valid.calls n e.f0 e.f1 A2 c2 l true _ HC1.out HL2.out (TabD.below HTD.out HB1.out) HV2.out).mono ?_
 rintro x w2 ⟨rfl, hb⟩
 have HE2 := am (blk_below HE1.out hb)
 have HB2 := am (below_step HB1.out hb)
 have HM2 := am (show Mp1 W0.heap.size w2 r e from ⟨HM1.out.choose, blk_below HM1.out.choose_spec.1 hb, Kd.R_below HM1.out.choose_spec.2 hb⟩)
 clear hb q0 q1 q2 HE1 HB1 HC1 HM1
 have q0 : w2.cell? ⟨ge, 0, none⟩ = some (.string e.f0) := blk_cell HE2.out 0
 have q1 : w2.cell? ⟨ge, 1, none⟩ = some (.int .i64 e.f1) := blk_cell HE2.out 1
 go_wp2_with fail
 refine (find_hit W0.heap.size r e w2 HM2.out).mono ?_
 rintro x w3 ⟨rfl, hb⟩
 have HB3 := am (below_step HB2.out hb)
 clear hb q0 q1 HE2 HB2 HM2
 go_wp2_with fail
 go_ret2
 exact ⟨rfl, HB3.out⟩
/-! ### TonaryFind -/
set_option maxHeartbeats 4000000 in
set_option maxRecDepth 100000 in
theorem tonValid_one (n : Nat) (A : Option Addr) (c : Nat) (e : S127) (w : World) (hC : Kd.C k127 w A 1 [e]) (hTD : TabD w) (hv : impl_Entry_valid.f n e.f0 e.f1 e.f2 = some true) (hl : e.f2.length ≤ 24) :
  Calls Tryz.prog 127 #[.slice A 1 c] w fun x w' => x = .returned (.bool true) ∧ Below w.heap.size w w' := by
 have HC := am hC
 have HTD : Aside0 (TabD w) := ⟨hTD⟩
 have HV := am hv
 have HL := am hl
 clear hC hTD hv hl
 go_enter Tryz.func127, Tryz.ntmps127
 go_wp2_with fail
 refine (tonOf_one n A c e w HC.out HTD.out HV.out HL.out).mono ?_
 rintro x w1 ⟨r, rfl, _, _, hb⟩
 have HB1 := am hb
 clear hb
 go_wp2_with fail
 go_ret
 exact ⟨rfl, HB1.out⟩
def fdL (b : Bool) : List Int := if b = true then [0] else []
set_option maxHeartbeats 8000000 in
set_option maxRecDepth 100000 in
theorem tonFind_one (n : Nat) (b : Bool) (A : Option Addr) (c : Nat) (e : S127) (B : Option Addr) (c1 : Nat) (m : List S49) (w : World) (hC : Kd.C k127 w A 1 [e]) (hM : Kd.C k49 w B m.length m) (hc : m.length ≤ c1) (hTD : TabD w) (hTH : TabH w) (hv : impl_Entry_valid.f n e.f0 e.f1 e.f2 = some true) (hl : e.f2.length ≤ 24) (hmv : impl_MelodyValid.f n m = some true) (hm0 : 0 < m.length)
  (hyes : b = true → m.length ≤ e.f2.length ∧ impl_MelodySame.f n (e.f2.take m.length) m = some true) (hno : b = false → e.f2.length < m.length) :
  Calls Tryz.prog 99 #[.slice A 1 c, .slice B m.length c1] w fun x w' => ∃ v, x = .returned v ∧ Kd.R (Kd.int .i64) 3 w' w.heap.size (fun _ => True) v (fdL b) ∧ Below w.heap.size w w' := by
 have hue := Tryz.underlying127
 have HB0 := am (below_alloc (Below.refl w.heap.size w) (.cells #[] 3))
 have HZ0 := am (show Kd.R (Kd.int .i64) 3 (w.alloc (.cells #[] 3)) w.heap.size (fun _ => True) (.slice (some ⟨w.heap.size, 0, none⟩) 0 0) [] from ms_empty _ _ _ trivial (blk_new w _) (Nat.le_refl _))
 have HC := am hC
 have HM := am hM
 have HC1 := am hc
 have HTD : Aside0 (TabD w) := ⟨hTD⟩
 have HTH : Aside0 (TabH w) := ⟨hTH⟩
 have HV := am hv
 have HL := am hl
 have HMV := am hmv
 have HM0 := am hm0
 have HY := am hyes
 have HNO := am hno
 clear hC hM hc hTD hTH hv hl hmv hm0 hyes hno
 go_enter Tryz.func99, Tryz.ntmps99
 go_wp2_with fail
 obtain ⟨gz, hgz⟩ : ∃ gz, gz = w.heap.size := ⟨_, rfl⟩
 have HGZ := am hgz
 refine (tonValid_one n A c e _ (Kd.C_below HC.out HB0.out) (TabD.below HTD.out HB0.out) HV.out HL.out).mono ?_
 rintro x w1 ⟨rfl, hb⟩
 have HB1 := am (below_step HB0.out hb)
 have HZ1 := am (Kd.R_below HZ0.out hb)
 clear hb HB0 HZ0
 go_wp2_with fail
 refine (impl_MelodyValid.calls n B c1 m true _ (Kd.C_below HM.out HB1.out) HC1.out HMV.out).mono ?_
 rintro x w2 ⟨rfl, hb⟩
 have HB2 := am (below_step HB1.out hb)
 have HZ2 := am (Kd.R_below HZ1.out hb)
 clear hb HB1 HZ1
 go_wp2_with fail
 go_loopg [5, 20] 2 (fun kq v5 v20 w' => ∃ i : Nat, v20 = .int .i64 (i : Int) ∧ Aside0 (i ≤ 1 ∧ kq = 2 - i) ∧ Aside0 (Kd.R (Kd.int .i64) 3 w' w.heap.size (fun _ => True) v5 (if i = 0 then [] else fdL b)) ∧ Aside0 (Below w.heap.size w w'))
 case atStart => exact ⟨0, rfl, ⟨by omega, rfl⟩, HZ2, HB2⟩
 case round =>
  obtain ⟨i, rfl, HI, HO, HB⟩ := hrel
  clear HZ2 HB2
  have hi : i = 0 ∨ i = 1 := by have := HI.out; omega
  rcases hi with rfl | rfl
  ·have hO := HO.out
   rw [if_pos rfl] at hO
   obtain ⟨A5, c5, rfl⟩ := Kd.R_slice hO
   have HO1 := am hO
   clear hO HO
   obtain ⟨ad, A2, c2, e1, k0, k1, k2, l2, g2⟩ := at_T127 (Kd.C_below HC.out HB.out) 0 (by omega) (by omega)
   cases e1
   simp only [Int.toNat_zero, Nat.zero_mul] at k0 k1 k2
   rw [show ad.add 0 = ad from by cases ad; rfl] at k0 k1 k2
   rw [show rd_T127 [e] 0 = e from rfl] at k0 k1 k2 l2 g2
   have HL2 := am l2
   have HG2 := am (Kd.C_below g2 (below_alloc (Below.refl _ _) (.cells #[.string e.f0, .int .i64 e.f1, .slice A2 e.f2.length c2] 127)))
   clear l2 g2
   go_upto_region 7 with fail
   have HE3 := am (blk_new wr (.cells #[.string e.f0, .int .i64 e.f1, .slice A2 e.f2.length c2] 127))
   have HB3 := am (below_alloc HB.out (.cells #[.string e.f0, .int .i64 e.f1, .slice A2 e.f2.length c2] 127))
   have HO3 := am (Kd.R_below HO1.out (below_alloc (Below.refl _ _) (.cells #[.string e.f0, .int .i64 e.f1, .slice A2 e.f2.length c2] 127)))
   obtain ⟨ge, hge⟩ : ∃ ge, ge = wr.heap.size := ⟨_, rfl⟩
   rw [← hge] at HE3 ⊢
   clear hge k0 k1 k2 HB HO1
   generalize wr.alloc (.cells #[.string e.f0, .int .i64 e.f1, .slice A2 e.f2.length c2] 127) = W3 at HE3 HB3 HO3 HG2 ⊢
   have q2 : W3.cell? ⟨ge, 2, none⟩ = some (.slice A2 e.f2.length c2) := blk_cell HE3.out 2
   cases b with
   | true =>
    obtain ⟨hle, hsm⟩ := HY.out rfl
    obtain ⟨ad2, rfl, _⟩ := HG2.out.2.2 (by have := HM0.out; omega)
    have p0 : ((m.length : Int) ≤ (e.f2.length : Int)) = True := eq_true (by omega)
    have p1 : ((m.length : Int) ≤ (c2 : Int)) = True := eq_true (by have := HL2.out; omega)
    have p2 : (m.length ≤ c2) = True := eq_true (by have := HL2.out; omega)
    have p3 : (m.length ≤ e.f2.length) = True := eq_true hle
    have HLE := am hle
    have HSM := am hsm
    clear hle hsm
    have htl : (e.f2.take m.length).length = m.length := by rw [List.length_take]; have := HLE.out; omega
    have hsame := impl_MelodySame.calls n (some ad2) c2 (e.f2.take m.length) B c1 m true W3 (Kd.C_take HG2.out HLE.out) (by rw [htl]; have := HLE.out; have := HL2.out; omega) (Kd.C_below HM.out HB3.out) HC1.out (TabAt.below HTH.out HB3.out) HSM.out
    rw [htl] at hsame
    have HSAME := am hsame
    clear hsame htl
    go_wp2_with fail
    refine HSAME.out.mono ?_
    rintro x w4 ⟨rfl, hb⟩
    have HB4 := am (below_step HB3.out hb)
    have HO4 := am (Kd.R_below HO3.out hb)
    clear hb HB3 HO3 HE3 HG2 HSAME q2
    go_wp2_with (first | ((with_reducible refine gate_builtin (b := .append) (xs := #[.tmp 40, .tmp 42]) rfl ?_); at_builtin; refine Kd.R_append (Kd.int .i64) (w0 := w) w.heap.size rfl (.tmp 40) (.tmp 42) 35 3 (.int .i64 0) 8 rfl Tryz.underlying35 infoSI rfl (by decide) (by omega) (.slice A5 0 c5) [] 0 [.int .i64 0] (fun _ => True) (fun _ => False) rfl rfl rfl (fun _ hk => hk.elim) (fun _ _ => trivial) HO4.out HB4.out HB4.out.size (by simp) ?_; intro v1 w6 ho hb hg hat; have HO5 := am ho; have HB5 := am hb; clear ho hb hg hat HO4 HB4))
    go_wp2_with fail
    go_roundg 1
    case measure => have := HI.out; omega
    case rel => exact ⟨1, rfl, ⟨by omega, rfl⟩, ⟨by rw [if_neg (by omega)]; exact HO5.out⟩, HB5⟩
   | false =>
    have hlt := HNO.out rfl
    have p0 : ((m.length : Int) ≤ (e.f2.length : Int)) = False := eq_false (by omega)
    have p3 : (m.length ≤ e.f2.length) = False := eq_false (by omega)
    clear hlt HL2 HG2
    go_wp2_with fail
    go_roundg 1
    case measure => have := HI.out; omega
    case rel => exact ⟨1, rfl, ⟨by omega, rfl⟩, ⟨by rw [if_neg (by omega)]; exact HO3.out⟩, HB3⟩
  ·have hO := HO.out
   rw [if_neg (by omega)] at hO
   have HO1 := am hO
   clear hO HO
   go_wp2_with fail
   go_ret
   exact ⟨_, rfl, HO1.out, HB.out⟩

/-! ### what a line of the modes does -/
set_option maxHeartbeats 4000000 in
set_option maxRecDepth 100000 in
theorem runMode_any (n base g : Nat) (m : St) (k : Nat) (v : Value) (w : World) (hTD : TabD w) (hs : Ses base w g m) (h : impl_ModeLikely.f n m.1 = some ((k : Int), true)) (hk : k < 25) :
  Calls Tryz.prog 71 #[.pointer (some ⟨g, 0, none⟩), v] w fun e w' => e = .returned (.string (decS k)) ∧ Kb w w' g ∧ Ses base w' g m := by
 obtain ⟨A, c, hc, hC, hm⟩ := ses_cell hs
 have HTD : Aside0 (TabD w) := ⟨hTD⟩
 have HS := am hs
 have H := am h
 have HC := am hC
 have HM := am hm
 have HK := am hk
 obtain ⟨d, hd⟩ : ∃ d, d = decS k := ⟨_, rfl⟩
 have HD := am hd
 rw [← hd]
 clear hTD hs h hC hm hk hd
 go_enter Tryz.func71, Tryz.ntmps71
 go_wp2_with fail
 refine (impl_ModeLikely.calls n A c m.1 (k : Int) true w HC.out HM.out HTD.out H.out).mono ?_
 rintro e w1 ⟨rfl, hb⟩
 have HS1 := am (HS.out.below hb)
 have HK1 := am (Kb.of_below hb g)
 clear hb HS HC HTD hc
 go_wp2_with fail
 refine (itoaD k d HK.out HD.out w1).mono ?_
 rintro e w2 ⟨rfl, nd, rfl⟩
 have hb := pw_below_drewN (Below.refl w1.heap.size w1) nd
 have HS2 := am (HS1.out.below hb)
 have HK2 := am (HK1.out.trans (Kb.of_below hb g))
 clear hb HS1 HK1
 go_wp2_with fail
 go_ret
 exact ⟨rfl, HK2.out, HS2.out⟩
def startOf (m : List S49) : List S49 := m.take (min 8 m.length)
set_option maxHeartbeats 8000000 in
set_option maxRecDepth 100000 in
theorem runEnter_new (n base g : Nat) (m : St) (k : Int) (ad : Addr) (nl : Nat) (x : ByteArray) (w : World) (hTD : TabD w) (hs : Ses base w g m) (hbw : base ≤ w.heap.size) (hx : w.cell? ad = some (.string x)) (hnl : 0 < nl) (h0 : m.2 = []) (h : impl_ModeLikely.f n m.1 = some (k, true)) (hv : impl_Entry_valid.f n x k (startOf m.1) = some true) (hk : 1 ≤ k ∧ k ≤ 8) (hl : 0 < m.1.length) :
  Calls Tryz.prog 72 #[.pointer (some ⟨g, 0, none⟩), .slice (some ad) nl nl] w fun e w' => e = .returned (.string okB) ∧ Kb w w' g ∧ Ses base w' g (m.1, [⟨x, k, startOf m.1⟩]) := by
 obtain ⟨A, c, hc, hC, hm⟩ := ses_cell hs
 obtain ⟨ad0, rfl, _⟩ := hC.2.2 hl
 have HTD : Aside0 (TabD w) := ⟨hTD⟩
 have HS := am hs
 have H := am h
 have HC := am hC
 have HM := am hm
 have HK := am hk
 have HV := am hv
 have HBW := am hbw
 have HX := am hx
 have HT0 := am h0
 have HLEN := am hl
 have HNL := am hnl
 clear hTD hs h hC hm hk hv hbw hx h0 hl hnl
 go_enter Tryz.func72, Tryz.ntmps72
 go_wp2_with fail
 refine (impl_ModeLikely.calls n (some ad0) c m.1 k true w HC.out HM.out HTD.out H.out).mono ?_
 rintro e w1 ⟨rfl, hb⟩
 have HS1 := am (HS.out.below hb)
 have HK1 := am (Kb.of_below hb g)
 have HB1 := am hb
 have HC1 := am (Kd.C_below HC.out hb)
 have HX1 := am (pw_cell_below hb HX.out)
 have HBW1 := am (Nat.le_trans HBW.out hb.size)
 have hc1 := pw_cell_below hb hc
 clear hb HS HC HX HBW hc
 go_wp2_with fail
 obtain ⟨q, hq⟩ : ∃ q : Nat, q = min 8 m.1.length := ⟨_, rfl⟩
 have hmin : (if (m.1.length : Int) < 8 then (m.1.length : Int) else 8) = (q : Int) := by split <;> omega
 have r1 : ((q : Int) ≤ (c : Int)) = True := eq_true (by have := HM.out; omega)
 have r2 : (q ≤ c) = True := eq_true (by have := HM.out; omega)
 have r3 : (0 ≤ (q : Int)) = True := eq_true (by omega)
 have HQ := am hq
 clear hq
 refine start_ (n := 12) (S := fun w' => w'.cell? ⟨g, 0, none⟩ = some (.slice (some ad0) m.1.length c) ∧ True) (ds := []) #[F,F,F,F,F,F,F,F,F,F,F,F] (by kernel_rfl) rfl rfl ⟨pw_cell_below (below_drew1 (Below.refl _ _)) hc1, trivial⟩ (fun hHeld => ?_)
 have HS2 := am (HS1.out.below (below_drew1 (Below.refl _ _)))
 have HK2 := am (HK1.out.trans (Kb.of_below (below_drew1 (Below.refl _ _)) g))
 have HB2 := am (below_drew1 HB1.out)
 have HC2 := am (Kd.C_below HC1.out (below_drew1 (Below.refl _ _)))
 have HX2 := am (pw_cell_below (below_drew1 (Below.refl _ _)) HX1.out)
 have HBW2 := am (show base ≤ w1.drew.heap.size from HBW1.out)
 clear HS1 HK1 HB1 HC1 HX1 HBW1 hc1
 generalize w1.drew = wd at HS2 HK2 HB2 HC2 HX2 HBW2 hHeld ⊢
 refine pz 0 (some 19) #[T,F,F,F,F,F,F,F,F,F,F,F] (by kernel_rfl) (h := ?_)
 refine pz 1 (some 20) #[T,T,F,F,F,F,F,F,F,F,F,F] (by kernel_rfl) (h := ?_)
 refine pz 2 (some 21) #[T,T,T,F,F,F,F,F,F,F,F,F] (by kernel_rfl) (h := ?_)
 refine pz 4 (some 23) #[T,T,T,F,T,F,F,F,F,F,F,F] (by kernel_rfl) (h := ?_)
 refine pz 5 (some 24) #[T,T,T,F,T,T,F,F,F,F,F,F] (by kernel_rfl) (h := ?_)
 refine pz 6 (some 25) #[T,T,T,F,T,T,T,F,F,F,F,F] (by kernel_rfl) (h := ?_)
 refine tz hHeld 3 (some 22) #[T,T,T,T,T,T,T,F,F,F,F,F] (by kernel_rfl) (h := ?_)
 refine tz hHeld 7 (some 26) #[T,T,T,T,T,T,T,T,F,F,F,F] (by kernel_rfl) (h := ?_)
 refine pz 8 (some 27) #[T,T,T,T,T,T,T,T,T,F,F,F] (by kernel_rfl) (h := ?_)
 refine pz 9 (some 28) #[T,T,T,T,T,T,T,T,T,T,F,F] (by kernel_rfl) (h := ?_)
 refine pz 10 (some 29) #[T,T,T,T,T,T,T,T,T,T,T,F] (by kernel_rfl) (h := ?_)
 refine pz 11 (some 7) #[T,T,T,T,T,T,T,T,T,T,T,T] (by kernel_rfl) (h := ?_)
 refine done_ (by kernel_rfl) ?_
 clear hHeld hmin r1 r2 r3
 go_wp2_with fail
 obtain ⟨A1, c1, hc1, _, _⟩ := ses_cell1 HS2.out
 rw [HT0.out] at hc1
 have hsl : (startOf m.1).length = q := by unfold startOf; rw [List.length_take, ← HQ.out]; have := HQ.out; omega
 have hadd : Calls Tryz.prog 98 #[.slice A1 0 c1, .agg #[.string x, .int .i64 k, .slice (some ad0) q c]] wd.drew (fun z w' => ∃ v, z = .returned (.tuple #[v, .bool true]) ∧ Kd.R k127 127 w' wd.drew.heap.size (fun _ => True) v [⟨x, k, startOf m.1⟩] ∧ Below wd.drew.heap.size wd.drew w') := by
  have h := add_new n A1 c1 ⟨x, k, startOf m.1⟩ (some ad0) c wd.drew (Kd.C_below (Kd.C_take HC2.out (by omega)) (below_drew1 (Below.refl _ _))) (by show (startOf m.1).length ≤ c; rw [hsl]; have := HQ.out; have := HM.out; omega) (TabD.below HTD.out (below_drew1 HB2.out)) HV.out (by show (startOf m.1).length ≤ 24; rw [hsl]; have := HQ.out; omega) HK.out.1 HK.out.2
  dsimp only at h
  rw [hsl] at h
  exact h
 have HADD := am hadd
 clear hadd hsl
 have r1 : ((0 : Int) < (nl : Int)) = True := eq_true (by have := HNL.out; omega)
 have r2 : (0 < nl) = True := eq_true HNL.out
 refine start_ (n := 16) (S := fun w' => w'.cell? ⟨g, 1, none⟩ = some (.slice A1 0 c1) ∧ w'.cell? ad = some (.string x)) (ds := []) #[F,F,F,F,F,F,F,F,F,F,F,F,F,F,F,F] (by kernel_rfl) rfl rfl ⟨pw_cell_below (below_drew1 (Below.refl _ _)) hc1, pw_cell_below (below_drew1 (Below.refl _ _)) HX2.out⟩ (fun hHeld => ?_)
 have HS3 := am (HS2.out.below (below_drew1 (Below.refl _ _)))
 have HK3 := am (HK2.out.trans (Kb.of_below (below_drew1 (Below.refl _ _)) g))
 have HBW3 := am (show base ≤ wd.drew.heap.size from HBW2.out)
 clear HS2 HK2 HB2 HC2 HX2 HBW2 hc1
 generalize wd.drew = we at HS3 HK3 HBW3 HADD hHeld ⊢
 refine pz 0 (some 31) #[T,F,F,F,F,F,F,F,F,F,F,F,F,F,F,F] (by kernel_rfl) (h := ?_)
 refine pz 1 (some 32) #[T,T,F,F,F,F,F,F,F,F,F,F,F,F,F,F] (by kernel_rfl) (h := ?_)
 refine pz 2 (some 33) #[T,T,T,F,F,F,F,F,F,F,F,F,F,F,F,F] (by kernel_rfl) (h := ?_)
 refine pz 4 (some 35) #[T,T,T,F,T,F,F,F,F,F,F,F,F,F,F,F] (by kernel_rfl) (h := ?_)
 refine pz 5 (some 36) #[T,T,T,F,T,T,F,F,F,F,F,F,F,F,F,F] (by kernel_rfl) (h := ?_)
 refine pz 7 (some 38) #[T,T,T,F,T,T,F,T,F,F,F,F,F,F,F,F] (by kernel_rfl) (h := ?_)
 refine pz 8 (some 39) #[T,T,T,F,T,T,F,T,T,F,F,F,F,F,F,F] (by kernel_rfl) (h := ?_)
 refine tz hHeld 3 (some 34) #[T,T,T,T,T,T,F,T,T,F,F,F,F,F,F,F] (by kernel_rfl) (h := ?_)
 refine tz hHeld 6 (some 37) #[T,T,T,T,T,T,T,T,T,F,F,F,F,F,F,F] (by kernel_rfl) (h := ?_)
 refine pz 9 (some 40) #[T,T,T,T,T,T,T,T,T,T,F,F,F,F,F,F] (by kernel_rfl) (h := ?_)
 refine one_ (i := 10) (N := some 41) #[T,T,T,T,T,T,T,T,T,T,T,F,F,F,F,F] rfl rfl (by kernel_rfl) (by decide) (fun K hK => ?_)
 refine goes_ Tryz.func98 (by kernel_rfl) rfl #[.slice A1 0 c1, .agg #[.string x, .int .i64 k, .slice (some ad0) q c]] (by rfl) rfl rfl (by (try simp only [List.map_toArray, List.map_cons, List.map_nil]); first | done | rfl) ?_
 with_reducible refine (HADD.out).mono ?_
 rintro e wf ⟨v, rfl, ho, hb⟩
 refine ⟨_, rfl, ?_⟩
 have HS4 := am (HS3.out.below hb)
 have HK4 := am (HK3.out.trans (Kb.of_below hb g))
 have HO4 := am (Kd.R_lower ho HBW3.out)
 have hb' := hb
 clear hb ho HS3 HK3 HBW3 HADD
 refine hK.out _ _ ⟨pw_cell_below hb' hHeld.1, pw_cell_below hb' hHeld.2⟩ (fun hHeld => ?_)
 clear hK K
 refine norm_ (a' := ?_) ?_ ?_
 rotate_left
 ·show Act.put _ (some 41) _ = _
  simp only [Act.put, sA, sZ, sS, i64_w, i32_w]
  rfl
 clear hb'
 refine pz 11 (some 30) #[T,T,T,T,T,T,T,T,T,T,T,T,F,F,F,F] (by kernel_rfl) (h := ?_)
 refine pz 12 (some 42) #[T,T,T,T,T,T,T,T,T,T,T,T,T,F,F,F] (by kernel_rfl) (h := ?_)
 refine pz 13 (some 43) #[T,T,T,T,T,T,T,T,T,T,T,T,T,T,F,F] (by kernel_rfl) (h := ?_)
 refine pz 14 (some 8) #[T,T,T,T,T,T,T,T,T,T,T,T,T,T,T,F] (by kernel_rfl) (h := ?_)
 refine pz 15 (some 6) #[T,T,T,T,T,T,T,T,T,T,T,T,T,T,T,T] (by kernel_rfl) (h := ?_)
 refine done_ (by kernel_rfl) ?_
 clear hHeld
 obtain ⟨Av, cv, rfl⟩ := Kd.R_slice HO4.out
 obtain ⟨A', c', A1', c1', hbl, hge, h3, h4⟩ := HS4.out
 have HBL := am hbl
 have q1 : wf.cell? ⟨g, 1, none⟩ = some (.slice A1' m.2.length c1') := (blk_cell hbl 1).trans rfl
 have qf := fun i => blk_frozen hbl i
 have H3 := am h3
 have HGE := am hge
 clear hbl h3 h4 hge HS4
 go_wp2_with fail
 go_ret
 exact ⟨rfl, HK4.out.set_g 1 _, A', c', Av, cv, blk_put (cs' := #[.slice A' m.1.length c', .slice Av 1 cv]) HBL.out 1 _ rfl, HGE.out, fun hm => Kd.R_mono (Kd.R_far (Kd.R_types (H3.out hm) HBL.out (by decide)) (p := ⟨g, 1, none⟩) (fun _ hk => hk.2) _) (fun _ _ => trivial), fun _ => Kd.R_mono (Kd.R_far (Kd.R_types HO4.out HBL.out (by decide)) (p := ⟨g, 1, none⟩) (fun _ hk => hk.2) _) (fun _ _ => trivial)⟩
set_option maxHeartbeats 8000000 in
set_option maxRecDepth 100000 in
theorem runEnter_dup (n base g : Nat) (m : St) (k : Int) (ad : Addr) (nl : Nat) (x : ByteArray) (w : World) (hTD : TabD w) (hs : Ses base w g m) (hbw : base ≤ w.heap.size) (hx : w.cell? ad = some (.string x)) (hnl : 0 < nl) (st : List S49) (h0 : m.2 = [⟨x, k, st⟩]) (hv0 : impl_Entry_valid.f n x k st = some true) (hst : st.length ≤ 24) (h : impl_ModeLikely.f n m.1 = some (k, true)) (hv : impl_Entry_valid.f n x k (startOf m.1) = some true) (hk : 1 ≤ k ∧ k ≤ 8) (hl : 0 < m.1.length) :
  Calls Tryz.prog 72 #[.pointer (some ⟨g, 0, none⟩), .slice (some ad) nl nl] w fun e w' => e = .returned (.string noB) ∧ Kb w w' g ∧ Ses base w' g m := by
 obtain ⟨A, c, hc, hC, hm⟩ := ses_cell hs
 obtain ⟨ad0, rfl, _⟩ := hC.2.2 hl
 have HTD : Aside0 (TabD w) := ⟨hTD⟩
 have HS := am hs
 have H := am h
 have HC := am hC
 have HM := am hm
 have HK := am hk
 have HV := am hv
 have HV0 := am hv0
 have HST := am hst
 have HBW := am hbw
 have HX := am hx
 have HT0 := am h0
 have HLEN := am hl
 have HNL := am hnl
 clear hTD hs h hC hm hk hv hbw hx h0 hl hnl hv0 hst
 go_enter Tryz.func72, Tryz.ntmps72
 go_wp2_with fail
 refine (impl_ModeLikely.calls n (some ad0) c m.1 k true w HC.out HM.out HTD.out H.out).mono ?_
 rintro e w1 ⟨rfl, hb⟩
 have HS1 := am (HS.out.below hb)
 have HK1 := am (Kb.of_below hb g)
 have HB1 := am hb
 have HC1 := am (Kd.C_below HC.out hb)
 have HX1 := am (pw_cell_below hb HX.out)
 have HBW1 := am (Nat.le_trans HBW.out hb.size)
 have hc1 := pw_cell_below hb hc
 clear hb HS HC HX HBW hc
 go_wp2_with fail
 obtain ⟨q, hq⟩ : ∃ q : Nat, q = min 8 m.1.length := ⟨_, rfl⟩
 have hmin : (if (m.1.length : Int) < 8 then (m.1.length : Int) else 8) = (q : Int) := by split <;> omega
 have r1 : ((q : Int) ≤ (c : Int)) = True := eq_true (by have := HM.out; omega)
 have r2 : (q ≤ c) = True := eq_true (by have := HM.out; omega)
 have r3 : (0 ≤ (q : Int)) = True := eq_true (by omega)
 have HQ := am hq
 clear hq
 refine start_ (n := 12) (S := fun w' => w'.cell? ⟨g, 0, none⟩ = some (.slice (some ad0) m.1.length c) ∧ True) (ds := []) #[F,F,F,F,F,F,F,F,F,F,F,F] (by kernel_rfl) rfl rfl ⟨pw_cell_below (below_drew1 (Below.refl _ _)) hc1, trivial⟩ (fun hHeld => ?_)
 have HS2 := am (HS1.out.below (below_drew1 (Below.refl _ _)))
 have HK2 := am (HK1.out.trans (Kb.of_below (below_drew1 (Below.refl _ _)) g))
 have HB2 := am (below_drew1 HB1.out)
 have HC2 := am (Kd.C_below HC1.out (below_drew1 (Below.refl _ _)))
 have HX2 := am (pw_cell_below (below_drew1 (Below.refl _ _)) HX1.out)
 have HBW2 := am (show base ≤ w1.drew.heap.size from HBW1.out)
 clear HS1 HK1 HB1 HC1 HX1 HBW1 hc1
 generalize w1.drew = wd at HS2 HK2 HB2 HC2 HX2 HBW2 hHeld ⊢
 refine pz 0 (some 19) #[T,F,F,F,F,F,F,F,F,F,F,F] (by kernel_rfl) (h := ?_)
 refine pz 1 (some 20) #[T,T,F,F,F,F,F,F,F,F,F,F] (by kernel_rfl) (h := ?_)
 refine pz 2 (some 21) #[T,T,T,F,F,F,F,F,F,F,F,F] (by kernel_rfl) (h := ?_)
 refine pz 4 (some 23) #[T,T,T,F,T,F,F,F,F,F,F,F] (by kernel_rfl) (h := ?_)
 refine pz 5 (some 24) #[T,T,T,F,T,T,F,F,F,F,F,F] (by kernel_rfl) (h := ?_)
 refine pz 6 (some 25) #[T,T,T,F,T,T,T,F,F,F,F,F] (by kernel_rfl) (h := ?_)
 refine tz hHeld 3 (some 22) #[T,T,T,T,T,T,T,F,F,F,F,F] (by kernel_rfl) (h := ?_)
 refine tz hHeld 7 (some 26) #[T,T,T,T,T,T,T,T,F,F,F,F] (by kernel_rfl) (h := ?_)
 refine pz 8 (some 27) #[T,T,T,T,T,T,T,T,T,F,F,F] (by kernel_rfl) (h := ?_)
 refine pz 9 (some 28) #[T,T,T,T,T,T,T,T,T,T,F,F] (by kernel_rfl) (h := ?_)
 refine pz 10 (some 29) #[T,T,T,T,T,T,T,T,T,T,T,F] (by kernel_rfl) (h := ?_)
 refine pz 11 (some 7) #[T,T,T,T,T,T,T,T,T,T,T,T] (by kernel_rfl) (h := ?_)
 refine done_ (by kernel_rfl) ?_
 clear hHeld hmin r1 r2 r3
 go_wp2_with fail
 obtain ⟨A1, c1, hc1, hT1, _⟩ := ses_cell1 HS2.out
 rw [HT0.out] at hc1 hT1
 have hsl : (startOf m.1).length = q := by unfold startOf; rw [List.length_take, ← HQ.out]; have := HQ.out; omega
 have hadd : Calls Tryz.prog 98 #[.slice A1 1 c1, .agg #[.string x, .int .i64 k, .slice (some ad0) q c]] wd.drew (fun z w' => z = .returned (.tuple #[.slice none 0 0, .bool false]) ∧ Below wd.drew.heap.size wd.drew w') := by
  have h := add_dup n A1 c1 ⟨x, k, st⟩ (startOf m.1) (some ad0) c wd.drew (Kd.C_below hT1 (below_drew1 (Below.refl _ _))) (Kd.C_below (Kd.C_take HC2.out (by omega)) (below_drew1 (Below.refl _ _))) (by rw [hsl]; have := HQ.out; have := HM.out; omega) (TabD.below HTD.out (below_drew1 HB2.out)) HV0.out HST.out HV.out
  dsimp only at h
  rw [hsl] at h
  exact h
 have HADD := am hadd
 clear hadd hsl hT1
 have r1 : ((0 : Int) < (nl : Int)) = True := eq_true (by have := HNL.out; omega)
 have r2 : (0 < nl) = True := eq_true HNL.out
 refine start_ (n := 16) (S := fun w' => w'.cell? ⟨g, 1, none⟩ = some (.slice A1 1 c1) ∧ w'.cell? ad = some (.string x)) (ds := []) #[F,F,F,F,F,F,F,F,F,F,F,F,F,F,F,F] (by kernel_rfl) rfl rfl ⟨pw_cell_below (below_drew1 (Below.refl _ _)) hc1, pw_cell_below (below_drew1 (Below.refl _ _)) HX2.out⟩ (fun hHeld => ?_)
 have HS3 := am (HS2.out.below (below_drew1 (Below.refl _ _)))
 have HK3 := am (HK2.out.trans (Kb.of_below (below_drew1 (Below.refl _ _)) g))
 have HBW3 := am (show base ≤ wd.drew.heap.size from HBW2.out)
 clear HS2 HK2 HB2 HC2 HX2 HBW2 hc1
 generalize wd.drew = we at HS3 HK3 HBW3 HADD hHeld ⊢
 refine pz 0 (some 31) #[T,F,F,F,F,F,F,F,F,F,F,F,F,F,F,F] (by kernel_rfl) (h := ?_)
 refine pz 1 (some 32) #[T,T,F,F,F,F,F,F,F,F,F,F,F,F,F,F] (by kernel_rfl) (h := ?_)
 refine pz 2 (some 33) #[T,T,T,F,F,F,F,F,F,F,F,F,F,F,F,F] (by kernel_rfl) (h := ?_)
 refine pz 4 (some 35) #[T,T,T,F,T,F,F,F,F,F,F,F,F,F,F,F] (by kernel_rfl) (h := ?_)
 refine pz 5 (some 36) #[T,T,T,F,T,T,F,F,F,F,F,F,F,F,F,F] (by kernel_rfl) (h := ?_)
 refine pz 7 (some 38) #[T,T,T,F,T,T,F,T,F,F,F,F,F,F,F,F] (by kernel_rfl) (h := ?_)
 refine pz 8 (some 39) #[T,T,T,F,T,T,F,T,T,F,F,F,F,F,F,F] (by kernel_rfl) (h := ?_)
 refine tz hHeld 3 (some 34) #[T,T,T,T,T,T,F,T,T,F,F,F,F,F,F,F] (by kernel_rfl) (h := ?_)
 refine tz hHeld 6 (some 37) #[T,T,T,T,T,T,T,T,T,F,F,F,F,F,F,F] (by kernel_rfl) (h := ?_)
 refine pz 9 (some 40) #[T,T,T,T,T,T,T,T,T,T,F,F,F,F,F,F] (by kernel_rfl) (h := ?_)
 refine one_ (i := 10) (N := some 41) #[T,T,T,T,T,T,T,T,T,T,T,F,F,F,F,F] rfl rfl (by kernel_rfl) (by decide) (fun K hK => ?_)
 refine goes_ Tryz.func98 (by kernel_rfl) rfl #[.slice A1 1 c1, .agg #[.string x, .int .i64 k, .slice (some ad0) q c]] (by rfl) rfl rfl (by (try simp only [List.map_toArray, List.map_cons, List.map_nil]); first | done | rfl) ?_
 with_reducible refine (HADD.out).mono ?_
 rintro e wf ⟨rfl, hb⟩
 refine ⟨_, rfl, ?_⟩
 have HS4 := am (HS3.out.below hb)
 have HK4 := am (HK3.out.trans (Kb.of_below hb g))
 have hb' := hb
 clear hb HS3 HK3 HBW3 HADD
 refine hK.out _ _ ⟨pw_cell_below hb' hHeld.1, pw_cell_below hb' hHeld.2⟩ (fun hHeld => ?_)
 clear hK K
 refine norm_ (a' := ?_) ?_ ?_
 rotate_left
 ·show Act.put _ (some 41) _ = _
  simp only [Act.put, sA, sZ, sS, i64_w, i32_w]
  rfl
 clear hb'
 refine pz 11 (some 30) #[T,T,T,T,T,T,T,T,T,T,T,T,F,F,F,F] (by kernel_rfl) (h := ?_)
 refine pz 12 (some 42) #[T,T,T,T,T,T,T,T,T,T,T,T,T,F,F,F] (by kernel_rfl) (h := ?_)
 refine pz 13 (some 43) #[T,T,T,T,T,T,T,T,T,T,T,T,T,T,F,F] (by kernel_rfl) (h := ?_)
 refine pz 14 (some 8) #[T,T,T,T,T,T,T,T,T,T,T,T,T,T,T,F] (by kernel_rfl) (h := ?_)
 refine pz 15 (some 6) #[T,T,T,T,T,T,T,T,T,T,T,T,T,T,T,T] (by kernel_rfl) (h := ?_)
 refine done_ (by kernel_rfl) ?_
 clear hHeld
 go_wp2_with fail
 go_ret
 exact ⟨rfl, HK4.out, HS4.out⟩
def fndB : ByteArray := ⟨#[102, 111, 117, 110, 100]⟩
def fndT (b : Bool) (x : ByteArray) : ByteArray := if b = true then fndB ++ ((⟨#[32]⟩ : ByteArray) ++ x) else fndB
set_option maxHeartbeats 8000000 in
set_option maxRecDepth 100000 in
theorem runFind_one (n base g : Nat) (b : Bool) (m : St) (e : S127) (v0 : Value) (w : World) (hTD : TabD w) (hTH : TabH w) (hs : Ses base w g m) (h0 : m.2 = [e]) (hx : e.f0.size ≤ 1000) (hv : impl_Entry_valid.f n e.f0 e.f1 e.f2 = some true) (hl : e.f2.length ≤ 24) (hmv : impl_MelodyValid.f n m.1 = some true) (hm0 : 0 < m.1.length)
  (hyes : b = true → m.1.length ≤ e.f2.length ∧ impl_MelodySame.f n (e.f2.take m.1.length) m.1 = some true) (hno : b = false → e.f2.length < m.1.length) :
  Calls Tryz.prog 73 #[.pointer (some ⟨g, 0, none⟩), v0] w fun z w' => z = .returned (.string (fndT b e.f0)) ∧ Kb w w' g ∧ Ses base w' g m := by
 have hue := Tryz.underlying127
 obtain ⟨A, c, hc, hC, hm⟩ := ses_cell hs
 obtain ⟨A1, c1, hc1, hC1, _⟩ := ses_cell1 hs
 rw [h0] at hc1 hC1
 have HTD : Aside0 (TabD w) := ⟨hTD⟩
 have HTH : Aside0 (TabH w) := ⟨hTH⟩
 have HS := am hs
 have HC := am hC
 have HC1 := am hC1
 have HM := am hm
 have HV := am hv
 have HL := am hl
 have HMV := am hmv
 have HM0 := am hm0
 have HY := am hyes
 have HNO := am hno
 have HT0 := am h0
 have s1 : (9223372036854775807 < 1 + e.f0.size) = False := eq_false (by omega)
 have s2 : (9223372036854775807 < fndB.size + (1 + e.f0.size)) = False := eq_false (by rw [show fndB.size = 5 from rfl]; omega)
 clear hTD hTH hs hC hC1 hm hv hl hmv hm0 hyes hno h0 hx
 go_enter Tryz.func73, Tryz.ntmps73
 go_wp2_with fail
 refine start_ (n := 11) (S := fun w' => w'.cell? ⟨g, 1, none⟩ = some (.slice A1 1 c1) ∧ w'.cell? ⟨g, 0, none⟩ = some (.slice A m.1.length c)) (ds := []) #[F,F,F,F,F,F,F,F,F,F,F] (by kernel_rfl) rfl rfl ⟨pw_cell_below (below_drew1 (Below.refl _ _)) hc1, pw_cell_below (below_drew1 (Below.refl _ _)) hc⟩ (fun hHeld => ?_)
 have HS1 := am (HS.out.below (below_drew1 (Below.refl _ _)))
 have HK1 := am (Kb.of_below (below_drew1 (Below.refl w.heap.size w)) g)
 have HTF := am (tonFind_one n b A1 c1 e A c m.1 w.drew (Kd.C_below HC1.out (below_drew1 (Below.refl _ _))) (Kd.C_below HC.out (below_drew1 (Below.refl _ _))) HM.out (TabD.below HTD.out (below_drew1 (Below.refl _ _))) (TabAt.below HTH.out (below_drew1 (Below.refl _ _))) HV.out HL.out HMV.out HM0.out HY.out HNO.out)
 clear HS hc hc1
 generalize w.drew = we at HS1 HK1 HTF hHeld ⊢
 refine pz 0 (some 8) #[T,F,F,F,F,F,F,F,F,F,F] (by kernel_rfl) (h := ?_)
 refine pz 1 (some 9) #[T,T,F,F,F,F,F,F,F,F,F] (by kernel_rfl) (h := ?_)
 refine pz 2 (some 10) #[T,T,T,F,F,F,F,F,F,F,F] (by kernel_rfl) (h := ?_)
 refine pz 4 (some 12) #[T,T,T,F,T,F,F,F,F,F,F] (by kernel_rfl) (h := ?_)
 refine pz 5 (some 13) #[T,T,T,F,T,T,F,F,F,F,F] (by kernel_rfl) (h := ?_)
 refine pz 6 (some 14) #[T,T,T,F,T,T,T,F,F,F,F] (by kernel_rfl) (h := ?_)
 refine pz 10 (some 18) #[T,T,T,F,T,T,T,F,F,F,T] (by kernel_rfl) (h := ?_)
 refine tz hHeld 3 (some 11) #[T,T,T,T,T,T,T,F,F,F,T] (by kernel_rfl) (h := ?_)
 refine tz hHeld 7 (some 15) #[T,T,T,T,T,T,T,T,F,F,T] (by kernel_rfl) (h := ?_)
 refine one_ (i := 8) (N := some 16) #[T,T,T,T,T,T,T,T,T,F,T] rfl rfl (by kernel_rfl) (by decide) (fun K hK => ?_)
 refine goes_ Tryz.func99 (by kernel_rfl) rfl #[.slice A1 1 c1, .slice A m.1.length c] (by rfl) rfl rfl (by (try simp only [List.map_toArray, List.map_cons, List.map_nil]); first | done | rfl) ?_
 with_reducible refine (HTF.out).mono ?_
 rintro z wf ⟨v, rfl, ho, hb⟩
 obtain ⟨A6, c6, rfl⟩ := Kd.R_slice ho
 refine ⟨_, rfl, ?_⟩
 have HS2 := am (HS1.out.below hb)
 have HK2 := am (HK1.out.trans (Kb.of_below hb g))
 have HO2 := am (Kd.R_reads' ho)
 have hb' := hb
 clear hb ho HS1 HK1 HTF
 refine hK.out _ _ ⟨pw_cell_below hb' hHeld.1, pw_cell_below hb' hHeld.2⟩ (fun hHeld => ?_)
 clear hK K
 refine norm_ (a' := ?_) ?_ ?_
 rotate_left
 ·show Act.put _ (some 16) _ = _
  simp only [Act.put, sA, sZ, sS, i64_w, i32_w]
  rfl
 clear hb'
 refine pz 9 (some 17) #[T,T,T,T,T,T,T,T,T,T,T] (by kernel_rfl) (h := ?_)
 refine done_ (by kernel_rfl) ?_
 clear hHeld
 obtain ⟨A', c', hc1, hC1, _⟩ := ses_cell1 HS2.out
 rw [HT0.out] at hc1 hC1
 obtain ⟨ad, A2, c2, e1, k0, k1, k2, l2, g2⟩ := at_T127 hC1 0 (by omega) (by simp)
 cases e1
 simp only [Int.toNat_zero, Nat.zero_mul] at k0 k1 k2
 rw [show ad.add 0 = ad from by cases ad; rfl] at k0 k1 k2
 rw [show rd_T127 [e] 0 = e from rfl] at k0 k1 k2 l2 g2
 clear k1 k2 l2 g2 hC1
 go_wp2_with fail
 cases b with
 | false =>
  go_loopg [5, 18] 1 (fun kq v5 v18 w' => v5 = .string fndB ∧ v18 = .int .i64 0 ∧ w' = wf)
  case atStart => exact ⟨rfl, rfl, rfl⟩
  case round =>
   obtain ⟨rfl, rfl, rfl⟩ := hrel
   go_wp2_with fail
   go_ret
   exact ⟨rfl, HK2.out, HS2.out⟩
 | true =>
  obtain ⟨ad6, rfl, hcell⟩ := HO2.out.2.2.2.2 (by decide)
  have j0 : wf.cell? ad6 = some (.int .i64 0) := by
   obtain ⟨cs, hl, hk, hcs⟩ := hcell 0 0 rfl
   have hk' : cs = [.int .i64 0] := hk
   subst hk'
   have := hcs 0 _ rfl
   rw [Nat.zero_mul, Nat.zero_add] at this
   rw [show ad6.add 0 = ad6 from by cases ad6; rfl] at this
   exact this
  clear hcell
  go_loopg [5, 18] 2 (fun kq v5 v18 w' => ∃ i : Nat, v18 = .int .i64 (i : Int) ∧ Aside0 (i ≤ 1 ∧ kq = 2 - i) ∧ v5 = .string (if i = 0 then fndB else fndT true e.f0) ∧ w' = wf)
  case atStart => exact ⟨0, rfl, ⟨by omega, rfl⟩, rfl, rfl⟩
  case round =>
   obtain ⟨i, rfl, HI, rfl, rfl⟩ := hrel
   have hi : i = 0 ∨ i = 1 := by have := HI.out; omega
   rcases hi with rfl | rfl
   ·rw [if_pos rfl]
    go_wp2_with fail
    go_roundg 1
    case measure => have := HI.out; omega
    case rel => exact ⟨1, rfl, ⟨by omega, rfl⟩, rfl, rfl⟩
   ·rw [if_neg (by omega)]
    go_wp2_with fail
    go_ret
    exact ⟨rfl, HK2.out, HS2.out⟩
/-! ### the steps of a script of modes -/
def wordE (line : ByteArray) : ByteArray := (splitS line).tail.headD ⟨#[]⟩
def melE (n : Nat) (m : St) (line : ByteArray) : Option (St × ByteArray) := (impl_MelodyFrom.f n (joinT (splitS line).tail)).bind fun p => some (if p.2 = true then (p.1, m.2) else m, saidB p.2)
def modE (n : Nat) (m : St) : Option (St × ByteArray) := (impl_ModeLikely.f n m.1).bind fun p => if p.2 = true ∧ 0 ≤ p.1 ∧ p.1 < 25 then some (m, decS p.1.toNat) else none
def dupE (n : Nat) (m : St) (x : ByteArray) (k : Int) : Option (St × ByteArray) := match m.2 with
 | [] => some ((m.1, [⟨x, k, startOf m.1⟩]), okB)
 | e :: r => if r = [] ∧ e.f0 = x ∧ e.f1 = k ∧ e.f2.length ≤ 24 then (impl_Entry_valid.f n e.f0 e.f1 e.f2).bind fun v => if v = true then some (m, noB) else none else none
def entE (n : Nat) (m : St) (x : ByteArray) : Option (St × ByteArray) := (impl_ModeLikely.f n m.1).bind fun p => if p.2 = true ∧ 1 ≤ p.1 ∧ p.1 ≤ 8 ∧ 0 < m.1.length then (impl_Entry_valid.f n x p.1 (startOf m.1)).bind fun v => if v = true then dupE n m x p.1 else none else none
def sameE (n : Nat) (m : St) (e : S127) : Option (St × ByteArray) := if m.1.length ≤ e.f2.length then (impl_MelodySame.f n (e.f2.take m.1.length) m.1).bind fun s => if s = true then some (m, fndT true e.f0) else none else some (m, fndT false e.f0)
def fndE (n : Nat) (m : St) : Option (St × ByteArray) := match m.2 with
 | [] => none
 | e :: r => if r = [] ∧ e.f0.size ≤ 1000 ∧ e.f2.length ≤ 24 ∧ 0 < m.1.length then (impl_Entry_valid.f n e.f0 e.f1 e.f2).bind fun v => (impl_MelodyValid.f n m.1).bind fun mv => if v = true ∧ mv = true then sameE n m e else none else none
def stepE (n : Nat) (m : St) (line : ByteArray) : Option (St × ByteArray) :=
 if line.size < 4294967281 then
  if cmdT.findIdx? (cmdM (splitS line)) = some 0 then melE n m line
  else if cmdT.findIdx? (cmdM (splitS line)) = some 8 then modE n m
  else if cmdT.findIdx? (cmdM (splitS line)) = some 9 then entE n m (wordE line)
  else if cmdT.findIdx? (cmdM (splitS line)) = some 10 then fndE n m
  else none
 else none
theorem stepE_mono (n : Nat) (m : St) (line : ByteArray) : LeO (stepE n m line) (stepE (n + 1) m line) := by
 unfold stepE
 split
 ·split
  ·exact LeO.bind (impl_MelodyFrom.mono _ _) (fun _ => LeO.refl _)
  ·split
   ·exact LeO.bind (impl_ModeLikely.mono _ _) (fun _ => LeO.refl _)
   ·split
    ·refine LeO.bind (impl_ModeLikely.mono _ _) (fun p => ?_)
     split
     ·refine LeO.bind (impl_Entry_valid.mono _ _ _ _) (fun v => ?_)
      split
      ·unfold dupE
       split
       ·exact LeO.refl _
       ·split
        ·exact LeO.bind (impl_Entry_valid.mono _ _ _ _) (fun _ => LeO.refl _)
        ·exact LeO.refl _
      ·exact LeO.refl _
     ·exact LeO.refl _
    ·split
     ·unfold fndE
      split
      ·exact LeO.refl _
      ·split
       ·refine LeO.bind (impl_Entry_valid.mono _ _ _ _) (fun v => LeO.bind (impl_MelodyValid.mono _ _) (fun mv => ?_))
        split
        ·unfold sameE
         split
         ·exact LeO.bind (impl_MelodySame.mono _ _ _) (fun _ => LeO.refl _)
         ·exact LeO.refl _
        ·exact LeO.refl _
       ·exact LeO.refl _
     ·exact LeO.refl _
 ·exact LeO.refl _
def TbE (w : World) : Prop := TabD w ∧ TabH w ∧ TabL w
theorem TbE.below {w w1 : World} (hb : Below w.heap.size w w1) (h : TbE w) : TbE w1 := ⟨TabD.below h.1 hb, TabAt.below h.2.1 hb, TabAt.below h.2.2 hb⟩
theorem melE_ok {n : Nat} {m m' : St} {line out : ByteArray} (hsz : line.size < 4294967281) (hix : cmdT.findIdx? (cmdM (splitS line)) = some 0) (h : melE n m line = some (m', out)) : LineOk TbE m line out m' := by
 have hl9 := splitS_le line
 have hl8 := splitS_len line
 obtain ⟨⟨r, ok⟩, ho, h⟩ := Option.bind_eq_some_iff.1 h
 obtain ⟨rfl, rfl⟩ : (if ok = true then (r, m.2) else m) = m' ∧ saidB ok = out := by simpa using h
 exact line_by 0 cmdT[0] (fun _ _ hb h => TbE.below hb h) hsz rfl hix (fn := Tryz.f63) Tryz.func63 (by kernel_rfl) rfl (fun base g b w1 hM hT hs hbw hgb hr => runMelody_any n base g b m r ok (splitS line) w1 hT.2.2 hM hs hbw hr (by omega) (by omega) ho)
theorem modE_ok {n : Nat} {m m' : St} {line out : ByteArray} (hsz : line.size < 4294967281) (hix : cmdT.findIdx? (cmdM (splitS line)) = some 8) (h : modE n m = some (m', out)) : LineOk TbE m line out m' := by
 obtain ⟨⟨k, ok⟩, ho, h⟩ := Option.bind_eq_some_iff.1 h
 dsimp only at h
 split at h
 ·rename_i hc
  obtain ⟨rfl, h0, h1⟩ := hc
  obtain ⟨rfl, rfl⟩ : m = m' ∧ decS k.toNat = out := by simpa using h
  obtain ⟨kn, rfl⟩ : ∃ kn : Nat, k = (kn : Int) := ⟨k.toNat, by omega⟩
  rw [Int.toNat_natCast]
  exact line_by 8 cmdT[8] (fun _ _ hb h => TbE.below hb h) hsz rfl hix (fn := Tryz.f71) Tryz.func71 (by kernel_rfl) rfl (fun base g b w1 hM hT hs hbw hgb hr => runMode_any n base g m kn _ w1 hT.1 hs ho (by omega))
 ·exact absurd h (by simp)
theorem entE_ok {n : Nat} {m m' : St} {line out : ByteArray} (hsz : line.size < 4294967281) (hix : cmdT.findIdx? (cmdM (splitS line)) = some 9) (h : entE n m (wordE line) = some (m', out)) : LineOk TbE m line out m' := by
 obtain ⟨⟨k, ok⟩, ho, h⟩ := Option.bind_eq_some_iff.1 h
 dsimp only at h
 split at h
 ·rename_i hc
  obtain ⟨rfl, h1, h8, hl⟩ := hc
  obtain ⟨vv, hv, h⟩ := Option.bind_eq_some_iff.1 h
  split at h
  ·rename_i hvt
   subst hvt
   obtain ⟨hlt, hm, hn⟩ := List.findIdx?_eq_some_iff_getElem.1 hix
   have h3 : (splitS line).length = 2 := by
    have hm' : cmdM (splitS line) cmdT[9] = true := hm
    unfold cmdM at hm'
    simp [cmdT] at hm'
    omega
   refine line_by 9 cmdT[9] (fun _ _ hb h => TbE.below hb h) hsz rfl hix (fn := Tryz.f72) Tryz.func72 (by kernel_rfl) rfl (fun base g b w1 hM hT hs hbw hgb hr => ?_)
   unfold wordE at h hv
   obtain ⟨ws, hws⟩ : ∃ ws, ws = splitS line := ⟨_, rfl⟩
   rw [← hws] at hr h3 h hv ⊢
   obtain ⟨x0, x1, rfl⟩ : ∃ a b, ws = [a, b] := by
    match ws, h3 with
    | [a, b], _ => exact ⟨a, b, rfl⟩
   have hx : w1.cell? ⟨b, 1, none⟩ = some (.string x1) := (blk_cell hr 1).trans rfl
   change dupE n m x1 k = some (m', out) at h
   change impl_Entry_valid.f n x1 k (startOf m.1) = some true at hv
   unfold dupE at h
   split at h
   ·rename_i h0
    obtain ⟨rfl, rfl⟩ : (m.1, [⟨x1, k, startOf m.1⟩]) = m' ∧ okB = out := by simpa using h
    exact runEnter_new n base g m k ⟨b, 1, none⟩ 1 x1 w1 hT.1 hs hbw hx (by decide) h0 ho hv ⟨h1, h8⟩ hl
   ·rename_i e r h0
    split at h
    ·rename_i hc
     obtain ⟨rfl, hx0, hk0, hl24⟩ := hc
     obtain ⟨v2, hv2, h⟩ := Option.bind_eq_some_iff.1 h
     split at h
     ·rename_i hvt
      subst hvt
      obtain ⟨rfl, rfl⟩ : m = m' ∧ noB = out := by simpa using h
      obtain ⟨e0, e1, st⟩ := e
      dsimp only at hx0 hk0 hl24 hv2
      subst hx0
      subst hk0
      exact runEnter_dup n base g m e1 ⟨b, 1, none⟩ 1 e0 w1 hT.1 hs hbw hx (by decide) st h0 hv2 hl24 ho hv ⟨h1, h8⟩ hl
     ·exact absurd h (by simp)
    ·exact absurd h (by simp)
  ·exact absurd h (by simp)
 ·exact absurd h (by simp)
theorem fndE_ok {n : Nat} {m m' : St} {line out : ByteArray} (hsz : line.size < 4294967281) (hix : cmdT.findIdx? (cmdM (splitS line)) = some 10) (h : fndE n m = some (m', out)) : LineOk TbE m line out m' := by
 unfold fndE at h
 split at h
 ·exact absurd h (by simp)
 ·rename_i e r h0
  split at h
  ·rename_i hc
   obtain ⟨rfl, hx, hl, hm0⟩ := hc
   obtain ⟨v, hv, h5⟩ := Option.bind_eq_some_iff.1 h
   clear h
   obtain ⟨mv, hmv, h6⟩ := Option.bind_eq_some_iff.1 h5
   clear h5
   split at h6
   ·rename_i hc
    obtain ⟨rfl, rfl⟩ := hc
    unfold sameE at h6
    split at h6
    ·rename_i hle
     obtain ⟨s, hs2, h7⟩ := Option.bind_eq_some_iff.1 h6
     clear h6
     split at h7
     ·rename_i hst
      subst hst
      obtain ⟨rfl, rfl⟩ : m = m' ∧ fndT true e.f0 = out := by simpa using h7
      exact line_by 10 cmdT[10] (fun _ _ hb h => TbE.below hb h) hsz rfl hix (fn := Tryz.f73) Tryz.func73 (by kernel_rfl) rfl (fun base g b w1 hM hT hs hbw hgb hr => runFind_one n base g true m e _ w1 hT.1 hT.2.1 hs h0 hx hv hl hmv hm0 (fun _ => ⟨hle, hs2⟩) (fun h => by cases h))
     ·exact absurd h7 (by simp)
    ·rename_i hle
     obtain ⟨rfl, rfl⟩ : m = m' ∧ fndT false e.f0 = out := by simpa using h6
     exact line_by 10 cmdT[10] (fun _ _ hb h => TbE.below hb h) hsz rfl hix (fn := Tryz.f73) Tryz.func73 (by kernel_rfl) rfl (fun base g b w1 hM hT hs hbw hgb hr => runFind_one n base g false m e _ w1 hT.1 hT.2.1 hs h0 hx hv hl hmv hm0 (fun h => by cases h) (fun _ => by omega))
   ·exact absurd h6 (by simp)
  ·exact absurd h (by simp)
theorem stepE_ok {n : Nat} {m m' : St} {line out : ByteArray} (h : stepE n m line = some (m', out)) : LineOk TbE m line out m' := by
 unfold stepE at h
 split at h
 ·rename_i hsz
  split at h
  ·rename_i hix
   exact melE_ok hsz hix h
  ·split at h
   ·rename_i hix
    exact modE_ok hsz hix h
   ·split at h
    ·rename_i hix
     exact entE_ok hsz hix h
    ·split at h
     ·rename_i hix
      exact fndE_ok hsz hix h
     ·exact absurd h (by simp)
 ·exact absurd h (by simp)
def impl_Execute.f (n : Nat) (a0 : ByteArray) : Option ByteArray := if a0.size ≤ 400 then (execGo (stepE n) n ([], []) ⟨#[]⟩ a0.data.toList).bind fun p => if p.1.1.length < 25 ∧ p.1.2.length < 25 ∧ p.2.size < 2000000 then some (execTxt p.2 p.1.1.length p.1.2.length) else none else none
theorem impl_Execute.mono : ∀ a0 n, LeO (impl_Execute.f n a0) (impl_Execute.f (n + 1) a0) := fun a0 n => by
 unfold impl_Execute.f
 split
 ·exact LeO.bind (execGo_mono (fun m l => stepE_mono n m l) n _ _ _) (fun _ => LeO.refl _)
 ·exact LeO.none _
theorem impl_Execute.calls (n : Nat) (a0 : ByteArray) (r : ByteArray) (w : World) (hTD : TabD w) (hTH : TabH w) (hTL : TabL w) (hTM : TabM w) (h : impl_Execute.f n a0 = some r) :
  Calls Tryz.prog 7 #[.string a0] w fun e w' => e = .returned (.string r) ∧ Below w.heap.size w w' := by
 unfold impl_Execute.f at h
 split at h
 ·rename_i hs
  obtain ⟨⟨M, OUT⟩, he, h⟩ := Option.bind_eq_some_iff.1 h
  dsimp only at h
  split at h
  ·rename_i hc
   obtain rfl := Option.some.inj h
   exact exec_any TbE (fun w w1 hb h => TbE.below hb h) (stepE n) (fun _ _ _ _ h => stepE_ok h) n a0 M OUT he hs ⟨hc.1, hc.2.1⟩ hc.2.2 w hTM ⟨hTD, hTH, hTL⟩
  ·exact absurd h (by simp)
 ·exact absurd h (by simp)


end Go.Proofs.YtkdlfnakbilhjaaGreatDoor.XK
