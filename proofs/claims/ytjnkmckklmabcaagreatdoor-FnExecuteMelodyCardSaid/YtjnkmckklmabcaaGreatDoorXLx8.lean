-- Made by this session's gprint.py out of the translation. Not trusted: Lean checks it. -- SLIM -- SQUEEZED
import Derived.Test.YtjnkmckklmabcaaGreatDoorShelf
import Derived.Test.YtjnkmckklmabcaaGreatDoorXLx0
import Derived.Test.YtjnkmckklmabcaaGreatDoorXLx2
import Derived.Test.YtjnkmckklmabcaaGreatDoorXLx3
import Derived.Test.YtjnkmckklmabcaaGreatDoorXLx6
import Derived.Test.YtjnkmckklmabcaaGreatDoorXLx7
namespace Go.Proofs.YtjnkmckklmabcaaGreatDoor.XL
open Go.RowKit Go.Proofs.YtjnkmckklmabcaaGreatDoorW.PrintWords Go.Proofs.YtjnkmckklmabcaaGreatDoorW.PrintLast Go.Proofs.YtjnkmckklmabcaaGreatDoorW.PrintMore
attribute [local go_sem] max2_int min2_int max_two min_two max_three min_three max_four min_four   -- for this text's walks alone
set_option maxHeartbeats 8000000
set_option maxRecDepth 100000
set_option linter.unusedVariables false
set_option linter.unusedSimpArgs false

/-! ### the commands, by hand -/
def cmdT : List (ByteArray × Int × Nat) := [(⟨#[109, 101, 108, 111, 100, 121]⟩, -1, 143), (⟨#[97, 100, 100]⟩, 1, 144), (⟨#[109, 111, 118, 101]⟩, 1, 145), (⟨#[115, 104, 111, 119]⟩, 0, 146), (⟨#[115, 116, 101, 112, 115]⟩, 0, 147), (⟨#[115, 105, 110, 103]⟩, 0, 148), (⟨#[110, 101, 117, 109, 101]⟩, 0, 149), (⟨#[109, 111, 100, 101, 115]⟩, 0, 150), (⟨#[109, 111, 100, 101]⟩, 0, 151), (⟨#[101, 110, 116, 101, 114]⟩, 1, 152), (⟨#[102, 105, 110, 100]⟩, 0, 153), (⟨#[111, 114, 100, 111]⟩, 2, 154)]
def cmdCells : List Value := cmdT.flatMap fun t => [.string t.1, .int .i64 t.2.1, .func (.func t.2.2) #[] #[]]
theorem allCommands_any (w : World) : Calls Tryz.prog 111 #[] w fun e w' => e = .returned (.slice (some ⟨w.heap.size, 0, none⟩) 12 12) ∧ w' = w.alloc (.cells cmdCells.toArray 114) := by
 go_enter Tryz.func111, Tryz.ntmps111
 go_wp2
 go_ret
 exact ⟨rfl, rfl⟩
theorem results_c1 {P : Program} {fn : Func} {p : Tmp} {ty : TypeId} (h : fn.results = #[.cell p ty]) (tmps : Array Value) (w : World) (g : Nat) (t : TypeId) (cs : Array Value) (fr : Nat × Nat) (d : TypeDesc)
  (hp : tmps.getD p undef = .pointer (some ⟨g, 0, none⟩)) (hg : w.heap[g]? = some (.cells cs t fr))
  (hu : P.underlying ty = some d) (hd : (match d with | .struct _ | .array _ _ => true | _ => false) = true) (hi : (P.info? ty).map (·.size) = some cs.size) :
  (results fn tmps).run P w = .ok (.agg cs) w := by
 have hp' : tmps[p]?.getD undef = .pointer (some ⟨g, 0, none⟩) := by simpa using hp
 simp [results, h, hp', asAddr, run_loadVar_row w g t ty cs fr d hg hu hd hi]
def cmdM (ws : List ByteArray) (t : ByteArray × Int × Nat) : Bool := (t.1.toList == (ws.headD ⟨#[]⟩).toList) && ((t.2.1 == -1) || (t.2.1 == (ws.length : Int) - 1))
theorem cmd_cell {W : World} {gt i : Nat} {t : ByteArray × Int × Nat} {T : Nat} (h : W.heap[gt]? = some (.cells cmdCells.toArray T (0, 0))) (hi : cmdT[i]? = some t) : W.cell? ⟨gt, i * 3, none⟩ = some (.string t.1) ∧ W.cell? ⟨gt, i * 3 + 1, none⟩ = some (.int .i64 t.2.1) ∧ W.cell? ⟨gt, i * 3 + 2, none⟩ = some (.func (.func t.2.2) #[] #[]) := by
 have key : ∀ j v, cmdCells[j]? = some v → W.cell? ⟨gt, j, none⟩ = some v := fun j v hj => (blk_cell h j).trans (by rw [List.getElem?_toArray]; exact hj)
 have hl : i < 12 := (List.getElem?_eq_some_iff.1 hi).1
 have : i = 0 ∨ i = 1 ∨ i = 2 ∨ i = 3 ∨ i = 4 ∨ i = 5 ∨ i = 6 ∨ i = 7 ∨ i = 8 ∨ i = 9 ∨ i = 10 ∨ i = 11 := by omega
 rcases this with rfl | rfl | rfl | rfl | rfl | rfl | rfl | rfl | rfl | rfl | rfl | rfl
 all_goals
  obtain rfl := Option.some.inj hi
  exact ⟨key _ _ rfl, key _ _ rfl, key _ _ rfl⟩
theorem commandFor_any (ws : List ByteArray) (b : Nat) (c : Nat) (i0 : Nat) (t : ByteArray × Int × Nat) (w : World) (hw : w.heap[b]? = some (.cells (ws.map Value.string).toArray 9 (0, 0))) (hc : ws.length ≤ c) (hlen : ws.length < 4294967296) (x0 : ByteArray) (hx : ws.head? = some x0) (hi : cmdT[i0]? = some t) (hm : cmdM ws t = true) (hlt : ∀ j u, j < i0 → cmdT[j]? = some u → cmdM ws u = false) :
  Calls Tryz.prog 82 #[.slice (some ⟨b, 0, none⟩) ws.length c] w fun e w' => e = .returned (.agg #[.string t.1, .int .i64 t.2.1, .func (.func t.2.2) #[] #[]]) ∧ Below w.heap.size w w' := by
 have HW := am hw
 obtain ⟨nl, hnl⟩ : ∃ nl : Nat, nl = ws.length := ⟨_, rfl⟩
 rw [← hnl] at hlen hc ⊢
 have HNL := am hnl
 clear hnl
 have HI := am hi
 have HM := am hm
 have HL := am hlt
 have HX := am hx
 have HB0 := am (below_alloc (Below.refl w.heap.size w) (.cells #[.string ⟨#[]⟩, .int .i64 0, .nilFunc] 114))
 have HW0 := am (blk_alloc hw (.cells #[.string ⟨#[]⟩, .int .i64 0, .nilFunc] 114))
 have HZ0 := am (blk_new w (.cells #[.string ⟨#[]⟩, .int .i64 0, .nilFunc] 114))
 clear hw hi hm hlt hx
 go_enter Tryz.func82, Tryz.ntmps82
 go_wp2_with fail
 refine (allCommands_any _).mono ?_
 rintro e w1 ⟨rfl, rfl⟩
 obtain ⟨gt, hgt⟩ : ∃ gt, gt = (w.alloc (.cells #[.string ⟨#[]⟩, .int .i64 0, .nilFunc] 114)).heap.size := ⟨_, rfl⟩
 have HT1 := am (blk_new (w.alloc (.cells #[.string ⟨#[]⟩, .int .i64 0, .nilFunc] 114)) (.cells cmdCells.toArray 114))
 have HW1 := am (blk_alloc HW0.out (.cells cmdCells.toArray 114))
 have HZ1 := am (blk_alloc HZ0.out (.cells cmdCells.toArray 114))
 have HB1 := am (below_alloc HB0.out (.cells cmdCells.toArray 114))
 rw [← hgt] at HT1 ⊢
 have HG := am hgt
 obtain ⟨gz, hgz⟩ : ∃ gz, gz = w.heap.size := ⟨_, rfl⟩
 have HGZ := am hgz
 rw [← hgz] at HZ1 ⊢
 generalize (w.alloc (.cells #[.string ⟨#[]⟩, .int .i64 0, .nilFunc] 114)).alloc (.cells cmdCells.toArray 114) = W1 at HT1 HW1 HZ1 HB1 ⊢
 clear HW0 HZ0 HB0 HW hgt hgz
 go_wp2_with fail
 go_loopg [7] 12 (fun kq v7 w' => ∃ (i : Nat), v7 = .int .i64 (i : Int) ∧ Aside0 (i ≤ i0 ∧ kq = 12 - i) ∧ Aside0 (w'.heap[gt]? = some (.cells cmdCells.toArray 114 (0, 0))) ∧ Aside0 (w'.heap[b]? = some (.cells (ws.map Value.string).toArray 9 (0, 0))) ∧ Aside0 (w'.heap[gz]? = some (.cells #[.string ⟨#[]⟩, .int .i64 0, .nilFunc] 114 (0, 0))) ∧ Aside0 (Below w.heap.size w w'))
 case atStart => exact ⟨0, rfl, ⟨by omega, by omega⟩, HT1, HW1, HZ1, HB1⟩
 case round =>
  obtain ⟨i, rfl, HI2, HT, HW, HZ, HB⟩ := hrel
  clear HT1 HW1 HZ1 HB1
  have hl0 : i0 < 12 := (List.getElem?_eq_some_iff.1 HI.out).1
  have hi12 : i < 12 := by have := HI2.out; omega
  obtain ⟨u, hu⟩ : ∃ u, cmdT[i]? = some u := ⟨_, List.getElem?_eq_getElem (show i < cmdT.length from hi12)⟩
  obtain ⟨k0, k1, k2⟩ := cmd_cell HT.out hu
  have HU := am hu
  have q0 : decide ((i : Int) < 12) = true := decide_eq_true (by omega)
  have p0 : 0 ≤ (i : Int) := by omega
  have p1 : (i : Int) < 12 := by omega
  replace p0 := eq_true p0
  replace p1 := eq_true p1
  clear hu hl0
  obtain ⟨u0, u1, u2⟩ := u
  dsimp only at k0 k1 k2
  have hsf : ∀ (a : Addr) (fn : Fn) (f c : Array Value) (m : Mode) (w : World), (store a (.func fn f c) m).run Tryz.prog w = stored Tryz.prog w a (.func fn f c) m := fun a fn f c m w => run_store Tryz.prog w a _ m rfl
  go_upto_region 4 with fail
  obtain ⟨gl, hgl⟩ : ∃ gl, gl = wr.heap.size := ⟨_, rfl⟩
  have HL2 := am (blk_new wr (.cells #[.string u0, .int .i64 u1, .func (.func u2) #[] #[]] 114))
  have HW2 := am (blk_alloc HW.out (.cells #[.string u0, .int .i64 u1, .func (.func u2) #[] #[]] 114))
  have HT2 := am (blk_alloc HT.out (.cells #[.string u0, .int .i64 u1, .func (.func u2) #[] #[]] 114))
  have HZ2 := am (blk_alloc HZ.out (.cells #[.string u0, .int .i64 u1, .func (.func u2) #[] #[]] 114))
  have HB2 := am (below_alloc HB.out (.cells #[.string u0, .int .i64 u1, .func (.func u2) #[] #[]] 114))
  rw [← hgl] at HL2 ⊢
  generalize wr.alloc (.cells #[.string u0, .int .i64 u1, .func (.func u2) #[] #[]] 114) = W2 at HL2 HW2 HT2 HZ2 HB2 ⊢
  clear k0 k1 k2 HW HT HZ HB hgl
  obtain ⟨xs, rfl⟩ : ∃ xs, ws = x0 :: xs := by
   have := HX.out
   cases ws with
   | nil => simp at this
   | cons a l => exact ⟨l, by have := Option.some.inj this; rw [this]⟩
  have c0 : W2.cell? ⟨gl, 0, none⟩ = some (.string u0) := (blk_cell HL2.out 0).trans rfl
  have c1 : W2.cell? ⟨gl, 1, none⟩ = some (.int .i64 u1) := (blk_cell HL2.out 1).trans rfl
  have c2 : W2.cell? ⟨gl, 2, none⟩ = some (.func (.func u2) #[] #[]) := (blk_cell HL2.out 2).trans rfl
  have d0 : W2.cell? ⟨b, 0, none⟩ = some (.string x0) := (blk_cell HW2.out 0).trans rfl
  have r1 : (0 : Int) < (nl : Int) := by rw [HNL.out, List.length_cons]; omega
  have r2 : (0 < nl) = True := eq_true (by omega)
  replace r1 := eq_true r1
  have HEQ := am (show cmdM (x0 :: xs) (u0, u1, u2) = ((u0.toList == x0.toList) && ((u1 == -1) || (u1 == (nl : Int) - 1))) by rw [HNL.out]; rfl)
  have w1 : wrap64 ((nl : Int) - 1) = (nl : Int) - 1 := by unfold wrap64; omega
  by_cases e0 : u0.toList = x0.toList
  ·have b0 : (u0.toList == x0.toList) = true := by rw [e0]; exact beq_self_eq_true _
   by_cases e1 : u1 = -1
   ·have b1 : (u1 == -1) = true := by rw [e1]; rfl
    replace HEQ := am (HEQ.out.trans (show _ = true by rw [b0, b1]; rfl))
    clear e0 e1
    go_quiet (fail)
    obtain ⟨rfl, HTU⟩ : i = i0 ∧ Aside0 (t = (u0, u1, u2)) := by
     by_cases hx2 : i = i0
     ·refine ⟨hx2, ⟨?_⟩⟩
      have a := HI.out
      rw [← hx2, HU.out] at a
      exact (Option.some.inj a).symm
     exfalso
     have a := HL.out i _ (by have := HI2.out; omega) HU.out
     rw [HEQ.out] at a
     exact absurd a (by decide)
    have c0' : (W2.drewN nq).cell? ⟨gl, 0, none⟩ = some (.string u0) := c0
    have c1' : (W2.drewN nq).cell? ⟨gl, 1, none⟩ = some (.int .i64 u1) := c1
    have c2' : (W2.drewN nq).cell? ⟨gl, 2, none⟩ = some (.func (.func u2) #[] #[]) := c2
    have HZ3 := am (blk_drewN HZ2.out nq)
    have HB3 := am (pw_below_drewN HB2.out nq)
    clear c0 c1 c2 d0 HZ2 HW2 HT2 HL2
    generalize W2.drewN nq = W3 at c0' c1' c2' HZ3 HB3 ⊢
    have z0 : W3.cell? ⟨gz, 0, none⟩ = some (.string ⟨#[]⟩) := (blk_cell HZ3.out 0).trans rfl
    have z1 : W3.cell? ⟨gz, 1, none⟩ = some (.int .i64 0) := (blk_cell HZ3.out 1).trans rfl
    have z2 : W3.cell? ⟨gz, 2, none⟩ = some .nilFunc := (blk_cell HZ3.out 2).trans rfl
    have qf := fun i => blk_frozen HZ3.out i
    go_wp2_with fail
    refine bodyPost_ret (results_c1 rfl _ _ gz 114 #[.string u0, .int .i64 u1, .func (.func u2) #[] #[]] (0, 0) _ rfl (blk_put (cs' := #[.string u0, .int .i64 u1, .func (.func u2) #[] #[]]) (blk_put (cs' := #[.string u0, .int .i64 u1, .nilFunc]) (blk_put (cs' := #[.string u0, .int .i64 0, .nilFunc]) HZ3.out 0 (.string u0) rfl) 1 (.int .i64 u1) rfl) 2 (.func (.func u2) #[] #[]) rfl) Tryz.underlying114 rfl (by kernel_rfl)) rfl ?_
    exact ⟨by rw [HTU.out], by rw [HGZ.out]; exact below_set (below_set (below_set HB3.out (Nat.le_refl _)) (Nat.le_refl _)) (Nat.le_refl _)⟩
   have b1 : (u1 == -1) = false := beq_eq_false_iff_ne.2 e1
   by_cases e2 : u1 = (nl : Int) - 1
   ·have b2 : (u1 == (nl : Int) - 1) = true := by rw [e2]; exact beq_self_eq_true _
    replace HEQ := am (HEQ.out.trans (show _ = true by rw [b0, b1, b2]; rfl))
    clear e0 e1 e2
    go_quiet (fail)
    obtain ⟨rfl, HTU⟩ : i = i0 ∧ Aside0 (t = (u0, u1, u2)) := by
     by_cases hx2 : i = i0
     ·refine ⟨hx2, ⟨?_⟩⟩
      have a := HI.out
      rw [← hx2, HU.out] at a
      exact (Option.some.inj a).symm
     exfalso
     have a := HL.out i _ (by have := HI2.out; omega) HU.out
     rw [HEQ.out] at a
     exact absurd a (by decide)
    have c0' : (W2.drewN nq).cell? ⟨gl, 0, none⟩ = some (.string u0) := c0
    have c1' : (W2.drewN nq).cell? ⟨gl, 1, none⟩ = some (.int .i64 u1) := c1
    have c2' : (W2.drewN nq).cell? ⟨gl, 2, none⟩ = some (.func (.func u2) #[] #[]) := c2
    have HZ3 := am (blk_drewN HZ2.out nq)
    have HB3 := am (pw_below_drewN HB2.out nq)
    clear c0 c1 c2 d0 HZ2 HW2 HT2 HL2
    generalize W2.drewN nq = W3 at c0' c1' c2' HZ3 HB3 ⊢
    have z0 : W3.cell? ⟨gz, 0, none⟩ = some (.string ⟨#[]⟩) := (blk_cell HZ3.out 0).trans rfl
    have z1 : W3.cell? ⟨gz, 1, none⟩ = some (.int .i64 0) := (blk_cell HZ3.out 1).trans rfl
    have z2 : W3.cell? ⟨gz, 2, none⟩ = some .nilFunc := (blk_cell HZ3.out 2).trans rfl
    have qf := fun i => blk_frozen HZ3.out i
    go_wp2_with fail
    refine bodyPost_ret (results_c1 rfl _ _ gz 114 #[.string u0, .int .i64 u1, .func (.func u2) #[] #[]] (0, 0) _ rfl (blk_put (cs' := #[.string u0, .int .i64 u1, .func (.func u2) #[] #[]]) (blk_put (cs' := #[.string u0, .int .i64 u1, .nilFunc]) (blk_put (cs' := #[.string u0, .int .i64 0, .nilFunc]) HZ3.out 0 (.string u0) rfl) 1 (.int .i64 u1) rfl) 2 (.func (.func u2) #[] #[]) rfl) Tryz.underlying114 rfl (by kernel_rfl)) rfl ?_
    exact ⟨by rw [HTU.out], by rw [HGZ.out]; exact below_set (below_set (below_set HB3.out (Nat.le_refl _)) (Nat.le_refl _)) (Nat.le_refl _)⟩
   have b2 : (u1 == (nl : Int) - 1) = false := beq_eq_false_iff_ne.2 e2
   replace HEQ := am (HEQ.out.trans (show _ = false by rw [b0, b1, b2]; rfl))
   clear e0 e1 e2
   go_quiet (fail)
   have HNE : Aside0 (i ≠ i0) := ⟨fun e => by
    have a := HI.out
    rw [← e, HU.out] at a
    have b := HM.out
    rw [← Option.some.inj a, HEQ.out] at b
    exact absurd b (by decide)⟩
   have HZ3 := am (blk_drewN HZ2.out nq)
   have HT3 := am (blk_drewN HT2.out nq)
   have HW3 := am (blk_drewN HW2.out nq)
   have HB3 := am (pw_below_drewN HB2.out nq)
   clear c0 c1 c2 d0 HZ2 HW2 HT2 HL2 HB2
   generalize W2.drewN nq = W3 at HZ3 HT3 HW3 HB3 ⊢
   go_wp2_with fail
   go_roundg (12 - (i + 1))
   case measure => have := HI2.out; omega
   case rel => exact ⟨i + 1, by have h2 : wrap64 ((i : Int) + 1) = (i : Int) + 1 := (by unfold wrap64; omega); simp [h2], ⟨by have := HI2.out; have := HNE.out; omega, rfl⟩, HT3, HW3, HZ3, HB3⟩
  have b0 : (u0.toList == x0.toList) = false := beq_eq_false_iff_ne.2 e0
  replace HEQ := am (HEQ.out.trans (show _ = false by rw [b0]; rfl))
  clear e0
  go_quiet (fail)
  have HNE : Aside0 (i ≠ i0) := ⟨fun e => by
   have a := HI.out
   rw [← e, HU.out] at a
   have b := HM.out
   rw [← Option.some.inj a, HEQ.out] at b
   exact absurd b (by decide)⟩
  have HZ3 := am (blk_drewN HZ2.out nq)
  have HT3 := am (blk_drewN HT2.out nq)
  have HW3 := am (blk_drewN HW2.out nq)
  have HB3 := am (pw_below_drewN HB2.out nq)
  clear c0 c1 c2 d0 HZ2 HW2 HT2 HL2 HB2
  generalize W2.drewN nq = W3 at HZ3 HT3 HW3 HB3 ⊢
  go_wp2_with fail
  go_roundg (12 - (i + 1))
  case measure => have := HI2.out; omega
  case rel => exact ⟨i + 1, by have h2 : wrap64 ((i : Int) + 1) = (i : Int) + 1 := (by unfold wrap64; omega); simp [h2], ⟨by have := HI2.out; have := HNE.out; omega, rfl⟩, HT3, HW3, HZ3, HB3⟩
def splitS (s : ByteArray) : List ByteArray := Lib.splitB ⟨#[32]⟩ 0 (Lib.countB s ⟨#[32]⟩) s
theorem splitS_len (s : ByteArray) : (splitS s).length = Lib.countB s ⟨#[32]⟩ + 1 := Lib.splitB_all ⟨#[32]⟩ (by decide) 0 _ s rfl
theorem splitS_le (s : ByteArray) : (splitS s).length ≤ s.size + 1 := by
 rw [splitS_len]
 have := Lib.countB_le ⟨#[32]⟩ (by decide) s.size s (Nat.le_refl _)
 omega
theorem line_idle (q : Addr) (w : World) : CallsD Tryz.prog 80 #[.pointer (some q)] .returning w fun e u' w' => e = .returned (.tuple #[]) ∧ u' = .returning ∧ w' = w := by
 have hnn : ∀ w : World, (binOp BinOp.neq 20 .nilIface .nilIface).run Tryz.prog w = .ok (.bool false) w := fun _ => by kernel_rfl
 refine callsD_of_wpS Tryz.func80 rfl fun c₀ cs hu => ?_
 apply wpS_seq
 apply wpS_region
 simp [wpOpsS, go_sem, recoverD, hu, Tryz.ntmps80, Exit.thenS]
 apply wpS_seq
 apply wpS_region
 simp [wpOpsS, go_sem, hnn, Exit.thenS]
 refine wpS_cond (t := false) (by simp [Act.eval, Array.replicate]) ?_
 simp only [Bool.false_eq_true, if_false]
 refine wpS_of_wp (wp_skip ?_)
 cases c₀
 simp_all [bodyPostS, results, Tryz.results80]
def noP (Q : Exit → Act → World → Prop) : Exit → Act → World → Prop
 | .normal, a, w => Q .normal a w
 | _, _, _ => False
theorem noP_le (Q : Exit → Act → World → Prop) : ∀ e a w, noP Q e a w → Q e a w := fun e a w h => by cases e <;> first | exact h | exact h.elim
theorem noP_in {Q : Exit → Act → World → Prop} {a : Act} {w : World} (h : Q .normal a w) : noP Q .normal a w := h
/-- All but block g stays, nothing is read or written outside. -/
def Kb (w w' : World) (g : Nat) : Prop := KeepBut w w' g none ∧ Below 0 w w'
theorem Kb.refl (w : World) (g : Nat) : Kb w w g := ⟨KeepBut.refl w g none, Below.refl 0 w⟩
theorem below_zero {w w' : World} {B : Nat} (h : Below B w w') : Below 0 w w' := ⟨h.os, h.tape, h.output, h.size, fun k hk => absurd hk (Nat.not_lt_zero k)⟩
theorem Kb.of_below {w w' : World} (h : Below w.heap.size w w') (g : Nat) : Kb w w' g := ⟨KeepBut.of_below h g none, below_zero h⟩
theorem Kb.trans {w w1 w2 : World} {g : Nat} (h : Kb w w1 g) (k : Kb w1 w2 g) : Kb w w2 g := ⟨KeepBut.trans h.1 k.1 (.inl rfl), h.2.trans k.2⟩
theorem below0_set {w w1 : World} (h : Below 0 w w1) (a : Addr) (u : Value) : Below 0 w (w1.setCell a u) := ⟨h.os, h.tape, h.output, by simpa [World.setCell] using h.size, fun k hk => absurd hk (Nat.not_lt_zero k)⟩
theorem Kb.set_new {w w1 : World} {g : Nat} (h : Kb w w1 g) {a : Addr} (ha : w.heap.size ≤ a.block) (u : Value) : Kb w (w1.setCell a u) g :=
 ⟨⟨by simpa [World.setCell] using h.1.1, fun i hi hg hr => (Below.heap_setCell w1 a u i (by omega)).trans (h.1.2 i hi hg hr)⟩, below0_set h.2 _ u⟩
theorem Kb.set_g {w w1 : World} {g : Nat} (h : Kb w w1 g) (j : Nat) (u : Value) : Kb w (w1.setCell ⟨g, j, none⟩ u) g := ⟨h.1.set_ j u, below0_set h.2 _ u⟩
theorem Kb.below {w0 w w' : World} {g B : Nat} (h : Kb w w' g) (hb : Below B w0 w) (hg : B ≤ g) (hB : B ≤ w.heap.size) : Below B w0 w' :=
 ⟨h.2.os.trans hb.os, h.2.tape.trans hb.tape, h.2.output.trans hb.output, Nat.le_trans hb.size h.2.size, fun k hk => (h.1.2 k (by omega) (by omega) (by simp)).trans (hb.block k hk)⟩
theorem goesV_ {P : Program} {ops : Array Oper} {Q : Exit → Act → World → Prop} {oi : Oper} {N : Option Tmp} {a : Act} {w : World} {K : Act → World → Prop} {f : FuncId} {fn : Func} {az : Array Operand} {ts : Array TypeId} (hf : P.funcs[f]? = some fn) (hname : (fn.name == "runtime.NumGoroutine") = false) (hb : fn.body.isSome = true) (s : Tmp) (hv : a.eval (.tmp s) = .func (.func f) #[] #[]) (args : Array Value)
  (hw : Region.wanted oi (yielded ops a.tmps) = true) (hN : oi.dst = N) (hop : oi.op = .call { callee := .value (.tmp s), args := az, argTypes := ts }) (hargs : az.map a.eval = args)
  (h : Calls P f args w fun e w' => ∃ v, e = .returned v ∧ K (a.put N v) w') : if Region.wanted oi (yielded ops a.tmps) = true then Oper.wp P oi a w K Q else K (a.put N undef) w := by
 refine call_ f args hw hN ?_ h
 have he := enters_ hf hname hb args w
 unfold execOp
 simp [hop, resolve, hv, Deferred.ofValue, invoke, hargs, he]
theorem runLine_any (g : Nat) (line out : ByteArray) (i0 : Nat) (t : ByteArray × Int × Nat) (w : World) (Q : World → Prop) (hTM : TabM w) (hg : g < w.heap.size) (hsz : line.size < 4294967281) (hi : cmdT[i0]? = some t) (hm : cmdM (splitS line) t = true) (hlt : ∀ j u, j < i0 → cmdT[j]? = some u → cmdM (splitS line) u = false)
  {fn : Func} (hf : Tryz.prog.funcs[t.2.2]? = some fn) (hname : (fn.name == "runtime.NumGoroutine") = false) (hbody : fn.body.isSome = true)
  (H : ∀ (b : Nat) (w1 : World), w.heap.size < b → w1.heap[b]? = some (.cells ((splitS line).map Value.string).toArray 9 (0, 0)) → Below w.heap.size w w1 → Calls Tryz.prog t.2.2 #[.pointer (some ⟨g, 0, none⟩), .slice (if (splitS line).length = 1 then some ⟨b, 0, none⟩ else some ⟨b, 1, none⟩) ((splitS line).length - 1) ((splitS line).length - 1)] w1 fun e w2 => e = .returned (.string out) ∧ Kb w1 w2 g ∧ Q w2) :
  Calls Tryz.prog 43 #[.pointer (some ⟨g, 0, none⟩), .string line] w fun e w' => e = .returned (.string out) ∧ ∃ w2, Q w2 ∧ Kb w w2 g ∧ w2.heap[w.heap.size]? = some (.cells #[.string ⟨#[]⟩] 9 (0, 0)) ∧ w' = w2.setCell ⟨w.heap.size, 0, none⟩ (.string out) := by
 have hmf : ∀ (fn : Fn) (first cap : Array Value) (w : World), (Instr.makeFunc fn first cap).run Tryz.prog w = .ok (.func fn first cap) w := fun _ _ _ _ => rfl
 have hfd : ∀ (a b c : Value) (w : World), (Instr.field 114 (.agg #[a, b, c]) 2).run Tryz.prog w = .ok c w := fun _ _ _ _ => by kernel_rfl
 have HM := am hm
 have HI := am hi
 have HL := am hlt
 have HH := am H
 have HTM := am hTM
 have HSZ := am hsz
 have HNE := am (show g ≠ w.heap.size by omega)
 clear hm hi hlt H hTM hsz hg
 go_enter_defers Tryz.func43, Tryz.ntmps43
 go_wp2_with fail
 have hB0 := below_alloc (Below.refl w.heap.size w) (.cells #[.string ⟨#[]⟩] 9)
 have hG0 := blk_new w (.cells #[.string ⟨#[]⟩] 9)
 obtain ⟨mm, hmm⟩ := TabM.below HTM.out hB0
 refine (Tryz.strings_Split line ⟨#[32]⟩ mm _ HSZ.out hmm (by decide)).mono ?_
 rintro e w1 ⟨rfl, rfl⟩
 obtain ⟨ws, hws⟩ : ∃ ws, ws = splitS line := ⟨_, rfl⟩
 have hln := splitS_len line
 have hle := splitS_le line
 have hh := HH.out
 have hM := HM.out
 have hL := HL.out
 clear HH HM HL
 rw [← hws] at hh hM hL hln hle
 have HH := am hh
 have HM := am hM
 have HL := am hL
 have HLE := am (show ws.length < 4294967296 by have := HSZ.out; omega)
 rw [show Lib.splitB ⟨#[32]⟩ 0 (Lib.countB line ⟨#[32]⟩) line = ws from hws.symm, ← hln]
 have hpos : 1 ≤ ws.length := by omega
 obtain ⟨b, hb⟩ : ∃ b, b = (w.alloc (.cells #[.string ⟨#[]⟩] 9)).heap.size := ⟨_, rfl⟩
 have HGB := am (show w.heap.size < b by rw [hb]; exact blk_lt hG0)
 have HR := am (blk_new (w.alloc (.cells #[.string ⟨#[]⟩] 9)) (.cells (ws.map Value.string).toArray 9))
 have HG := am (blk_alloc hG0 (.cells (ws.map Value.string).toArray 9))
 have HB := am (below_alloc hB0 (.cells (ws.map Value.string).toArray 9))
 rw [← hb] at HR ⊢
 generalize (w.alloc (.cells #[.string ⟨#[]⟩] 9)).alloc (.cells (ws.map Value.string).toArray 9) = W1 at HR HG HB ⊢
 obtain ⟨x0, hx⟩ : ∃ x0, ws.head? = some x0 := by
  cases ws with
  | nil => simp at hpos
  | cons a l => exact ⟨a, rfl⟩
 have HX := am hx
 clear hh hM hL hln hle hws hB0 hG0 hmm hb hx
 have hp2 : (1 ≤ ws.length) = True := eq_true hpos
 have hp3 : ((1 : Int) ≤ (ws.length : Int)) = True := eq_true (by omega)
 have hp4 : ((ws.length : Int) < 1) = False := eq_false (by omega)
 clear hpos
 go_wp2_with fail
 refine wp_mono (Q := noP _) ?_ (noP_le _)
 have HR1 := am (blk_drew HR.out)
 have HG1 := am (blk_drew HG.out)
 have HB1 := am (below_drew1 HB.out)
 refine start_ (n := 8) (S := fun w' => True) (ds := [7]) #[F,F,F,F,F,F,F,F] (by kernel_rfl) rfl rfl trivial (fun hHeld => ?_)
 clear HR HG HB
 generalize W1.drew = wd at HR1 HG1 HB1 hHeld ⊢
 refine pz 0 (some 9) #[T,F,F,F,F,F,F,F] (by kernel_rfl) (h := ?_)
 refine pz 3 (some 12) #[T,F,F,T,F,F,F,F] (by kernel_rfl) (h := ?_)
 refine pz 4 (some 13) #[T,F,F,T,T,F,F,F] (by kernel_rfl) (h := ?_)
 refine pz 5 (some 14) #[T,F,F,T,T,T,F,F] (by kernel_rfl) (h := ?_)
 refine one_ (i := 1) (N := some 10) #[T,T,F,T,T,T,F,F] rfl rfl (by kernel_rfl) (by decide) (fun K hK => ?_)
 refine goes_ Tryz.func82 (by kernel_rfl) rfl #[.slice (some ⟨b, 0, none⟩) ws.length ws.length] (by rfl) rfl rfl (by (try simp only [mA, mC, mN]); first | done | rfl) ?_
 with_reducible refine (commandFor_any ws b ws.length i0 t _ HR1.out (Nat.le_refl _) HLE.out x0 HX.out HI.out HM.out HL.out).mono ?_
 rintro e we ⟨rfl, hb⟩
 refine ⟨_, rfl, ?_⟩
 have HR2 := am (blk_below HR1.out hb)
 have HG2 := am (blk_below HG1.out hb)
 have HB2 := am (below_step HB1.out hb)
 clear HR1 HG1 HB1 hb
 refine hK.out _ _ trivial (fun hHeld => ?_)
 clear hK K
 refine norm_ (a' := ?_) ?_ ?_
 rotate_left
 ·show Act.put _ (some 10) _ = _
  simp only [Act.put, sA, sZ, sS, i64_w, i32_w]
  rfl
 refine one_ (i := 2) (N := some 11) #[T,T,T,T,T,T,F,F] rfl rfl (by kernel_rfl) (by decide) (fun K hK => ?_)
 refine value_ (w1 := ?_) (v := ?_) (by rfl) rfl ?_ ?_
 rotate_left 2
 ·go_simp
  constructor
  ·rfl
  ·rfl
 refine hK.out _ _ trivial (fun hHeld => ?_)
 clear hK K
 refine norm_ (a' := ?_) ?_ ?_
 rotate_left
 ·show Act.put _ (some 11) _ = _
  simp only [Act.put, sA, sZ, sS, i64_w, i32_w]
  rfl
 refine one_ (i := 6) (N := some 15) #[T,T,T,T,T,T,T,F] rfl rfl (by kernel_rfl) (by decide) (fun K hK => ?_)
 refine goesV_ hf hname hbody 11 rfl #[.pointer (some ⟨g, 0, none⟩), .slice (if ws.length = 1 then some ⟨b, 0, none⟩ else some ⟨b, 1, none⟩) (ws.length - 1) (ws.length - 1)] (by rfl) rfl rfl (by (try simp only [mA, mC, mN]); first | done | rfl) ?_
 with_reducible refine (HH.out b _ HGB.out HR2.out HB2.out).mono ?_
 rintro e w2 ⟨rfl, hk, hq⟩
 refine ⟨_, rfl, ?_⟩
 have HG3 := am ((hk.1.2 w.heap.size (blk_lt HG2.out) HNE.out.symm (by simp)).trans HG2.out)
 have HK3 := am (Kb.trans (Kb.of_below HB2.out g) hk)
 have HQ3 := am hq
 clear HR2 HG2 HB2 hk hq
 refine hK.out _ _ trivial (fun hHeld => ?_)
 clear hK K
 refine norm_ (a' := ?_) ?_ ?_
 rotate_left
 ·show Act.put _ (some 15) _ = _
  simp only [Act.put, sA, sZ, sS, i64_w, i32_w]
  rfl
 clear hHeld
 have q0 : w2.cell? ⟨w.heap.size, 0, none⟩ = some (.string ⟨#[]⟩) := blk_cell HG3.out 0
 have qf := fun i => blk_frozen HG3.out i
 refine last_ (i := 7) (N := none) #[T,T,T,T,T,T,T,T] rfl rfl (by kernel_rfl) (by decide) (fun K hK => ?_)
 refine skip_ (w1 := ?_) (by rfl) rfl ?_ ?_
 rotate_left
 ·go_simp
  rfl
 refine hK.out _ _ ?_
 clear hK K
 refine done_ (by kernel_rfl) ?_
 refine noP_in ?_
 go_wp2_with fail
 all_goals
  refine leaves_cons (f := 80) (args := #[.pointer (some ⟨w.heap.size, 0, none⟩)]) (by simp) (by simp [go_sem]) ?_
  refine (line_idle ⟨w.heap.size, 0, none⟩ _).mono ?_
  rintro e u' w'' ⟨rfl, rfl, rfl⟩
  have q1 : (w2.setCell ⟨w.heap.size, 0, none⟩ (.string out)).cell? ⟨w.heap.size, 0, none⟩ = some (.string out) := (blk_cell (blk_put (cs' := #[.string out]) HG3.out 0 (.string out) rfl) 0).trans rfl
  refine ⟨.string out, ?_, rfl, w2, HQ3.out, HK3.out, HG3.out, rfl⟩
  simp [results, Tryz.results43, go_sem, q1]
/-- The session at block g: its melody, no entries. -/
def Ses (base : Nat) (W : World) (g : Nat) (m : List S74) : Prop := ∃ A c A1 c1, W.heap[g]? = some (.cells #[.slice A m.length c, .slice A1 0 c1] 58 (0, 0)) ∧ base ≤ g ∧ (m ≠ [] → Kd.R k74 74 W base (fun _ => True) (.slice A m.length c) m)
theorem Ses.below {base : Nat} {W W1 : World} {g : Nat} {m : List S74} (h : Ses base W g m) (hb : Below W.heap.size W W1) : Ses base W1 g m := by
 obtain ⟨A, c, A1, c1, h1, h2, h3⟩ := h
 exact ⟨A, c, A1, c1, blk_below h1 hb, h2, fun hm => Kd.R_below (h3 hm) hb⟩
theorem Ses.far {base : Nat} {W : World} {g go : Nat} {m : List S74} {cs : Array Value} (h : Ses base W g m) (hb : W.heap[go]? = some (.cells cs 9 (0, 0))) (u : Value) : Ses base (W.setCell ⟨go, 0, none⟩ u) g m := by
 obtain ⟨A, c, A1, c1, h1, h2, h3⟩ := h
 exact ⟨A, c, A1, c1, blk_far h1 (blk_ne h1 hb (by decide)) u, h2, fun hm => Kd.R_mono (Kd.R_far (Kd.R_types (h3 hm) hb (by decide)) (p := ⟨go, 0, none⟩) (fun _ hk => hk.2) u) (fun _ _ => trivial)⟩
theorem Ses.lt {base : Nat} {W : World} {g : Nat} {m : List S74} (h : Ses base W g m) : g < W.heap.size := by
 obtain ⟨A, c, A1, c1, h1, h2, h3⟩ := h
 exact blk_lt h1
theorem Ses.ge {base : Nat} {W : World} {g : Nat} {m : List S74} (h : Ses base W g m) : base ≤ g := by
 obtain ⟨A, c, A1, c1, h1, h2, h3⟩ := h
 exact h2
/-- What a line does: for each session that fits. -/
def LineOk (Tb : World → Prop) (m : List S74) (line out : ByteArray) (m' : List S74) : Prop :=
 ∀ (base g : Nat) (w : World), TabM w → Tb w → Ses base w g m → base ≤ w.heap.size → Calls Tryz.prog 43 #[.pointer (some ⟨g, 0, none⟩), .string line] w fun e w' => e = .returned (.string out) ∧ Kb w w' g ∧ Ses base w' g m'
/-- A line by its command's own contract. -/
theorem line_by {Tb : World → Prop} {m : List S74} {line out : ByteArray} {m' : List S74} (i0 : Nat) (t : ByteArray × Int × Nat) (hTb : ∀ w w1, Below w.heap.size w w1 → Tb w → Tb w1) (hsz : line.size < 4294967281) (hi : cmdT[i0]? = some t) (hix : cmdT.findIdx? (cmdM (splitS line)) = some i0)
  {fn : Func} (hf : Tryz.prog.funcs[t.2.2]? = some fn) (hname : (fn.name == "runtime.NumGoroutine") = false) (hbody : fn.body.isSome = true)
  (H : ∀ (base g b : Nat) (w1 : World), TabM w1 → Tb w1 → Ses base w1 g m → base ≤ w1.heap.size → g < b → w1.heap[b]? = some (.cells ((splitS line).map Value.string).toArray 9 (0, 0)) → Calls Tryz.prog t.2.2 #[.pointer (some ⟨g, 0, none⟩), .slice (if (splitS line).length = 1 then some ⟨b, 0, none⟩ else some ⟨b, 1, none⟩) ((splitS line).length - 1) ((splitS line).length - 1)] w1 fun e w2 => e = .returned (.string out) ∧ Kb w1 w2 g ∧ Ses base w2 g m') : LineOk Tb m line out m' := by
 intro base g w hTM hTB hs hbw
 obtain ⟨hlt, hm, hn⟩ := List.findIdx?_eq_some_iff_getElem.1 hix
 have hm' : cmdM (splitS line) t = true := by
  have e := List.getElem?_eq_getElem hlt
  rw [hi] at e
  rw [Option.some.inj e]
  exact hm
 refine (runLine_any g line out i0 t w (fun w2 => Ses base w2 g m') hTM hs.lt hsz hi hm' (fun j u hj hu => ?_) hf hname hbody (fun b w1 h1 h2 h3 => ?_)).mono ?_
 ·have e := List.getElem?_eq_getElem (show j < cmdT.length by omega)
  rw [hu] at e
  rw [Option.some.inj e]
  exact Bool.eq_false_iff.mpr (hn j hj)
 ·exact H base g b w1 (hTM.below h3) (hTb w w1 h3 hTB) (hs.below h3) (Nat.le_trans hbw h3.size) (Nat.lt_of_lt_of_le (Nat.lt_trans hs.lt (Nat.lt_succ_self _)) h1) h2
 ·rintro e w' ⟨rfl, w2, hq, hk, hb, rfl⟩
  exact ⟨rfl, hk.set_new (Nat.le_refl _) _, hq.far hb _⟩

theorem cut_len (t : List UInt8) : (Lib.cut t [10]).2.1.length ≤ t.length := by
 unfold Lib.cut
 split
 ·simp only [List.length_drop]
  omega
 ·simp
def execGo (step : List S74 → ByteArray → Option (List S74 × ByteArray)) : Nat → List S74 → ByteArray → List UInt8 → Option (List S74 × ByteArray)
 | 0, _, _, _ => none
 | k + 1, m, out, t => if (Lib.cut t [10]).2.2 = true then (step m ⟨(Lib.cut t [10]).1.toArray⟩).bind fun p => if out.size + p.2.size < 1000000 then execGo step k p.1 (out ++ (p.2 ++ (⟨#[10]⟩ : ByteArray))) (Lib.cut t [10]).2.1 else none else some (m, out)
theorem execGo_mono {step step' : List S74 → ByteArray → Option (List S74 × ByteArray)} (hs : ∀ m l, LeO (step m l) (step' m l)) : ∀ k m out t, LeO (execGo step k m out t) (execGo step' (k + 1) m out t)
 | 0, _, _, _ => LeO.none _
 | k + 1, m, out, t => by
  rw [execGo, execGo]
  split
  ·refine LeO.bind (hs _ _) (fun p => ?_)
   split
   ·exact execGo_mono hs k _ _ _
   ·exact LeO.none _
  ·exact LeO.refl _
def execTxt (out : ByteArray) (n : Nat) : ByteArray := ((((out ++ (⟨#[116, 111, 110, 101, 115, 32]⟩ : ByteArray)) ++ decS n) ++ (⟨#[32, 101, 110, 116, 114, 105, 101, 115, 32]⟩ : ByteArray)) ++ decS 0) ++ (⟨#[10]⟩ : ByteArray)
theorem decS_size (n : Nat) : (decS n).size ≤ 2 := by
 unfold decS
 split
 ·exact (by decide : (1 : Nat) ≤ 2)
 ·exact (by decide : (2 : Nat) ≤ 2)
theorem itoaZ (d : ByteArray) (hd : d = decS 0) (w : World) : Calls Tryz.prog 44 #[.int .i64 0] w fun e w' => e = .returned (.string d) ∧ ∃ nd, w' = w.drewN nd := itoaD 0 d (by decide) hd w
theorem exec_any (Tb : World → Prop) (hTb : ∀ w w1, Below w.heap.size w w1 → Tb w → Tb w1) (step : List S74 → ByteArray → Option (List S74 × ByteArray)) (hok : ∀ m line m' o, step m line = some (m', o) → LineOk Tb m line o m')
  (k : Nat) (text : ByteArray) (M : List S74) (OUT : ByteArray) (h : execGo step k [] ⟨#[]⟩ text.data.toList = some (M, OUT)) (hs : text.size ≤ 400) (hm : M.length < 25) (ho : OUT.size < 2000000) (w : World) (hTM : TabM w) (hTB : Tb w) :
  Calls Tryz.prog 12 #[.string text] w fun e w' => e = .returned (.string (execTxt OUT M.length)) ∧ Below w.heap.size w w' := by
 have HTb := am hTb
 have HOK := am hok
 have HE := am h
 have HS := am hs
 have HM := am hm
 have HO := am ho
 have HTM := am hTM
 have HTB := am hTB
 have g0 : decide ((text.size : Int) > 400) = false := decide_eq_false (by omega)
 have g1 : ((400 : Int) < (text.size : Int)) = False := eq_false (by omega)
 have g2 : (400 < text.size) = False := eq_false (by omega)
 clear hTb hok h hs hm ho hTM hTB
 go_enter Tryz.func12, Tryz.ntmps12
 go_wp2_with fail
 have hB0 := below_alloc (Below.refl w.heap.size w) (.cells #[.slice none 0 0, .slice none 0 0] 58)
 have hG0 := blk_new w (.cells #[.slice none 0 0, .slice none 0 0] 58)
 obtain ⟨mm, hmm⟩ := TabM.below HTM.out hB0
 refine (Tryz.strings_Cut text ⟨#[10]⟩ mm _ (by have := HS.out; omega) hmm).mono ?_
 rintro e w1 ⟨rfl, nd, rfl⟩
 obtain ⟨tx, htx⟩ : ∃ tx, tx = text.data.toList := ⟨_, rfl⟩
 have hlt : tx.length ≤ 400 := by
  have h1 := HS.out
  have h2 : text.size = tx.length := by rw [htx, Array.length_toList]; rfl
  omega
 have HE2 := am (show execGo step k [] ⟨#[]⟩ tx = some (M, OUT) by rw [htx]; exact HE.out)
 have HLT := am hlt
 rw [← htx]
 rw [show (⟨#[10]⟩ : ByteArray).data.toList = [10] from rfl]
 obtain ⟨gs, hgs⟩ : ∃ gs, gs = w.heap.size := ⟨_, rfl⟩
 have HGS := am hgs
 have HB1 := am (pw_below_drewN hB0 nd)
 have HS1 := am (show Ses w.heap.size ((w.alloc (.cells #[.slice none 0 0, .slice none 0 0] 58)).drewN nd) gs [] from ⟨none, 0, none, 0, by rw [hgs]; exact blk_drewN hG0 nd, by omega, fun h => absurd rfl h⟩)
 rw [← hgs] at ⊢
 generalize (w.alloc (.cells #[.slice none 0 0, .slice none 0 0] 58)).drewN nd = W1 at HB1 HS1 ⊢
 clear hB0 hG0 hmm htx hlt hgs HE
 go_wp2_with fail
 go_loopg [4, 5, 6, 7] k (fun kq v4 v5 v6 v7 w' => ∃ (m : List S74) (o : ByteArray) (t : List UInt8), v4 = .string o ∧ v5 = .string ⟨(Lib.cut t [10]).1.toArray⟩ ∧ v6 = .string ⟨(Lib.cut t [10]).2.1.toArray⟩ ∧ v7 = .bool (Lib.cut t [10]).2.2 ∧ Aside0 (execGo step kq m o t = some (M, OUT)) ∧ Aside0 (t.length ≤ 400) ∧ Aside0 (Ses w.heap.size w' gs m) ∧ Aside0 (Below w.heap.size w w'))
 case atStart => exact ⟨[], ⟨#[]⟩, tx, rfl, rfl, rfl, rfl, HE2, HLT, HS1, HB1⟩
 case round =>
  obtain ⟨m, o, t, rfl, rfl, rfl, rfl, HX, HL, HS2, HB⟩ := hrel
  clear HE2 HLT HS1 HB1
  cases gk with
  | zero => exact absurd HX.out (by simp [execGo])
  | succ k1 =>
   have hx := HX.out
   rw [execGo] at hx
   have hcl := cut_len t
   have hl := HL.out
   obtain ⟨c, hc⟩ : ∃ c, c = Lib.cut t [10] := ⟨_, rfl⟩
   rw [← hc] at hx hcl ⊢
   obtain ⟨c1, c2, c3⟩ := c
   dsimp only at hx hcl ⊢
   cases c3 with
   | true =>
    rw [if_pos rfl] at hx
    obtain ⟨⟨m2, o2⟩, hp, hx⟩ := Option.bind_eq_some_iff.1 hx
    dsimp only at hx
    by_cases hsz : o.size + o2.size < 1000000
    case neg => rw [if_neg hsz] at hx; exact absurd hx (by simp)
    rw [if_pos hsz] at hx
    have HX2 := am hx
    have HP := am hp
    have HC2 := am (show c2.length ≤ 400 by omega)
    have s1 : (9223372036854775807 < o2.size + 1) = False := eq_false (by omega)
    have s2 : (9223372036854775807 < o.size + (o2.size + 1)) = False := eq_false (by omega)
    clear hx hp hc hcl hl hsz HX
    go_wp2_with fail
    refine (HOK.out m ⟨c1.toArray⟩ m2 o2 HP.out w.heap.size gs wr (TabM.below HTM.out HB.out) (HTb.out _ _ HB.out HTB.out) HS2.out HB.out.size).mono ?_
    rintro e w2 ⟨rfl, hk, hs⟩
    have HB3 := am (hk.below HB.out (by have := HGS.out; omega) HB.out.size)
    have HS3 := am hs
    clear hk hs HS2 HB
    go_wp2_with fail
    obtain ⟨mm, hmm⟩ := TabM.below HTM.out HB3.out
    refine (Tryz.strings_Cut ⟨c2.toArray⟩ ⟨#[10]⟩ mm _ (by have := HC2.out; show c2.toArray.size < _; rw [List.size_toArray]; omega) hmm).mono ?_
    rintro e w3 ⟨rfl, nd, rfl⟩
    rw [show (⟨#[10]⟩ : ByteArray).data.toList = [10] from rfl, show (⟨c2.toArray⟩ : ByteArray).data.toList = c2 from rfl]
    have HB4 := am (pw_below_drewN HB3.out nd)
    have HS4 := am (HS3.out.below (pw_below_drewN (Below.refl _ _) nd))
    clear hmm HB3 HS3
    generalize w2.drewN nd = W4 at HB4 HS4 ⊢
    go_wp2_with fail
    go_roundg k1
    case measure => omega
    case rel => exact ⟨m2, _, c2, rfl, rfl, rfl, rfl, HX2, HC2, HS4, HB4⟩
   | false =>
    rw [if_neg (by decide)] at hx
    obtain ⟨rfl, rfl⟩ : m = M ∧ o = OUT := by simpa using hx
    clear hx hc hcl hl HX
    obtain ⟨A, ca, A1, c1a, hb1, hb2, hb3⟩ := HS2.out
    have HBL := am hb1
    clear hb1 hb2 hb3 HS2
    obtain ⟨d, hd⟩ : ∃ d, d = decS m.length := ⟨_, rfl⟩
    have hds := decS_size m.length
    have hd0 := decS_size 0
    rw [← hd] at hds
    obtain ⟨z, hz⟩ : ∃ z, z = decS 0 := ⟨_, rfl⟩
    rw [← hz] at hd0
    have HD := am hd
    have HZ := am hz
    have hosz := HO.out
    have s1 : (9223372036854775807 < o.size + 6) = False := eq_false (by omega)
    have s2 : (9223372036854775807 < o.size + 6 + d.size) = False := eq_false (by omega)
    have s3 : (9223372036854775807 < o.size + 6 + d.size + 9) = False := eq_false (by omega)
    have s4 : (9223372036854775807 < o.size + 6 + d.size + 9 + z.size) = False := eq_false (by omega)
    have s5 : (9223372036854775807 < o.size + 6 + d.size + 9 + z.size + 1) = False := eq_false (by omega)
    clear hd hz hds hd0 hosz
    go_wp2_with fail
    have HBL1 := am (blk_drew HBL.out)
    have HB1 := am (below_drew1 HB.out)
    refine start_ (n := 19) (S := fun w' => w'.cell? ⟨gs, 0, none⟩ = some (.slice A m.length ca) ∧ w'.cell? ⟨gs, 1, none⟩ = some (.slice A1 0 c1a)) (ds := []) #[F,F,F,F,F,F,F,F,F,F,F,F,F,F,F,F,F,F,F] (by kernel_rfl) rfl rfl ⟨(blk_cell HBL1.out 0).trans rfl, (blk_cell HBL1.out 1).trans rfl⟩ (fun hHeld => ?_)
    clear HBL HB
    generalize wr.drew = wd at HBL1 HB1 hHeld ⊢
    refine pz 0 (some 32) #[T,F,F,F,F,F,F,F,F,F,F,F,F,F,F,F,F,F,F] (by kernel_rfl) (h := ?_)
    refine pz 1 (some 33) #[T,T,F,F,F,F,F,F,F,F,F,F,F,F,F,F,F,F,F] (by kernel_rfl) (h := ?_)
    refine pz 2 (some 34) #[T,T,T,F,F,F,F,F,F,F,F,F,F,F,F,F,F,F,F] (by kernel_rfl) (h := ?_)
    refine pz 3 (some 35) #[T,T,T,T,F,F,F,F,F,F,F,F,F,F,F,F,F,F,F] (by kernel_rfl) (h := ?_)
    refine pz 4 (some 36) #[T,T,T,T,T,F,F,F,F,F,F,F,F,F,F,F,F,F,F] (by kernel_rfl) (h := ?_)
    refine pz 10 (some 42) #[T,T,T,T,T,F,F,F,F,F,T,F,F,F,F,F,F,F,F] (by kernel_rfl) (h := ?_)
    refine pz 11 (some 43) #[T,T,T,T,T,F,F,F,F,F,T,T,F,F,F,F,F,F,F] (by kernel_rfl) (h := ?_)
    refine pz 12 (some 44) #[T,T,T,T,T,F,F,F,F,F,T,T,T,F,F,F,F,F,F] (by kernel_rfl) (h := ?_)
    refine tz hHeld 5 (some 37) #[T,T,T,T,T,T,F,F,F,F,T,T,T,F,F,F,F,F,F] (by kernel_rfl) (h := ?_)
    refine tz hHeld 13 (some 45) #[T,T,T,T,T,T,F,F,F,F,T,T,T,T,F,F,F,F,F] (by kernel_rfl) (h := ?_)
    refine pz 6 (some 38) #[T,T,T,T,T,T,T,F,F,F,T,T,T,T,F,F,F,F,F] (by kernel_rfl) (h := ?_)
    refine pz 14 (some 46) #[T,T,T,T,T,T,T,F,F,F,T,T,T,T,T,F,F,F,F] (by kernel_rfl) (h := ?_)
    refine one_ (i := 7) (N := some 39) #[T,T,T,T,T,T,T,T,F,F,T,T,T,T,T,F,F,F,F] rfl rfl (by kernel_rfl) (by decide) (fun K hK => ?_)
    refine goes_ Tryz.func44 (by kernel_rfl) rfl #[.int .i64 (m.length : Int)] (by rfl) rfl rfl (by (try simp only [mA, mC, mN]); first | done | rfl) ?_
    with_reducible refine (itoaD m.length d HM.out HD.out _).mono ?_
    rintro e we ⟨rfl, nd, rfl⟩
    refine ⟨_, rfl, ?_⟩
    refine hK.out _ _ ⟨hHeld.1, hHeld.2⟩ (fun hHeld => ?_)
    clear hK K
    refine norm_ (a' := ?_) ?_ ?_
    rotate_left
    ·show Act.put _ (some 39) _ = _
     simp only [Act.put, sA, sZ, sS, i64_w, i32_w]
     rfl
    have HB2 := am (pw_below_drewN HB1.out nd)
    clear HB1
    generalize wd.drewN nd = wd2 at HB2 hHeld ⊢
    refine pz 8 (some 40) #[T,T,T,T,T,T,T,T,T,F,T,T,T,T,T,F,F,F,F] (by kernel_rfl) (h := ?_)
    refine pz 9 (some 41) #[T,T,T,T,T,T,T,T,T,T,T,T,T,T,T,F,F,F,F] (by kernel_rfl) (h := ?_)
    refine one_ (i := 15) (N := some 47) #[T,T,T,T,T,T,T,T,T,T,T,T,T,T,T,T,F,F,F] rfl rfl (by kernel_rfl) (by decide) (fun K hK => ?_)
    refine goes_ Tryz.func44 (by kernel_rfl) rfl #[.int .i64 0] (by rfl) rfl rfl (by (try simp only [mA, mC, mN]); first | done | rfl) ?_
    with_reducible refine (itoaZ z HZ.out _).mono ?_
    rintro e we ⟨rfl, nd, rfl⟩
    refine ⟨_, rfl, ?_⟩
    refine hK.out _ _ ⟨hHeld.1, hHeld.2⟩ (fun hHeld => ?_)
    clear hK K
    refine norm_ (a' := ?_) ?_ ?_
    rotate_left
    ·show Act.put _ (some 47) _ = _
     simp only [Act.put, sA, sZ, sS, i64_w, i32_w]
     rfl
    have HB1 := am (pw_below_drewN HB2.out nd)
    clear HB2
    generalize wd2.drewN nd = wd3 at HB1 hHeld ⊢
    refine pz 16 (some 48) #[T,T,T,T,T,T,T,T,T,T,T,T,T,T,T,T,T,F,F] (by kernel_rfl) (h := ?_)
    refine pz 17 (some 49) #[T,T,T,T,T,T,T,T,T,T,T,T,T,T,T,T,T,T,F] (by kernel_rfl) (h := ?_)
    refine pz 18 (some 2) #[T,T,T,T,T,T,T,T,T,T,T,T,T,T,T,T,T,T,T] (by kernel_rfl) (h := ?_)
    refine done_ (by kernel_rfl) ?_
    clear hHeld
    go_wp2_with fail
    go_ret
    exact ⟨by rw [show execTxt o m.length = ((((o ++ (⟨#[116, 111, 110, 101, 115, 32]⟩ : ByteArray)) ++ d) ++ (⟨#[32, 101, 110, 116, 114, 105, 101, 115, 32]⟩ : ByteArray)) ++ z) ++ (⟨#[10]⟩ : ByteArray) by rw [HD.out, HZ.out]; rfl]; rfl, HB1.out⟩

def okB : ByteArray := ⟨#[111, 107]⟩
def noB : ByteArray := ⟨#[110, 111]⟩
def saidB (ok : Bool) : ByteArray := if ok = true then okB else noB
theorem become_any (base g : Nat) (m r : List S74) (v : Value) (ok : Bool) (w : World) (hs : Ses base w g m) (ho : Kd.R k74 74 w base (fun _ => True) v r) :
  Calls Tryz.prog 175 #[.pointer (some ⟨g, 0, none⟩), v, .bool ok] w fun e w' => e = .returned (.string (saidB ok)) ∧ Kb w w' g ∧ Ses base w' g (if ok = true then r else m) := by
 obtain ⟨A, c, rfl⟩ := Kd.R_slice ho
 cases ok with
 | false =>
  have HS := am hs
  clear hs ho
  go_enter Tryz.func175, Tryz.ntmps175
  go_wp2_with fail
  go_ret
  exact ⟨rfl, Kb.refl _ _, HS.out⟩
 | true =>
  obtain ⟨A0, c0, A1, c1, hb, hg, _⟩ := hs
  have HO := am ho
  have HBL := am hb
  have q0 : w.cell? ⟨g, 0, none⟩ = some (.slice A0 m.length c0) := (blk_cell hb 0).trans rfl
  have qf := fun i => blk_frozen hb i
  clear hb ho
  go_enter Tryz.func175, Tryz.ntmps175
  go_wp2_with fail
  go_ret
  exact ⟨rfl, (Kb.refl _ _).set_g 0 _, A, c, A1, c1, blk_put (cs' := #[.slice A r.length c, .slice A1 0 c1]) HBL.out 0 _ rfl, hg, fun _ => Kd.R_mono (Kd.R_far (Kd.R_types HO.out HBL.out (by decide)) (p := ⟨g, 0, none⟩) (fun _ hk => hk.2) _) (fun _ _ => trivial)⟩
def joinT (xs : List ByteArray) : ByteArray := ⟨(Lib.join (xs.map (·.data.toList)) [32]).toArray⟩
theorem mf_small {n : Nat} {s : ByteArray} {p : List S74 × Bool} (h : impl_MelodyFrom.f n s = some p) : s.size < 4294967281 := by
 unfold impl_MelodyFrom.f at h
 split at h
 ·assumption
 ·exact absurd h (by simp)
theorem runMelody_any (n base g b : Nat) (m r : List S74) (ok : Bool) (ws : List ByteArray) (w : World) (hTL : TabL w) (hTM : TabM w) (hs : Ses base w g m) (hbw : base ≤ w.heap.size) (hr : w.heap[b]? = some (.cells (ws.map Value.string).toArray 9 (0, 0))) (h1 : 1 ≤ ws.length) (hl : ws.length < 4294967296) (h : impl_MelodyFrom.f n (joinT ws.tail) = some (r, ok)) :
  Calls Tryz.prog 143 #[.pointer (some ⟨g, 0, none⟩), .slice (if ws.length = 1 then some ⟨b, 0, none⟩ else some ⟨b, 1, none⟩) (ws.length - 1) (ws.length - 1)] w fun e w' => e = .returned (.string (saidB ok)) ∧ Kb w w' g ∧ Ses base w' g (if ok = true then r else m) := by
 obtain ⟨rr, hrr⟩ : ∃ rr, rr = (if ok = true then r else m) := ⟨_, rfl⟩
 rw [← hrr]
 have HRR := am hrr
 clear hrr
 have HTL := am hTL
 have HTM := am hTM
 have HS := am hs
 have HBW := am hbw
 have HR := am hr
 have H := am h
 have HSZ := am (mf_small h)
 obtain ⟨A, hA⟩ : ∃ A : Option Addr, A = (if ws.length = 1 then some ⟨b, 0, none⟩ else some ⟨b, 1, none⟩) := ⟨_, rfl⟩
 rw [← hA]
 obtain ⟨nl, hnl⟩ : ∃ nl, nl = ws.length - 1 := ⟨_, rfl⟩
 rw [← hnl]
 have HA := am hA
 have HN := am hnl
 have H1 := am h1
 have HL := am hl
 clear hTL hTM hs hbw hr h hA hnl h1 hl
 go_enter Tryz.func143, Tryz.ntmps143
 go_wp2_with fail
 have hj : Calls Tryz.prog 63 #[.slice A nl nl, .string ⟨#[32]⟩] w fun e w' => e = .returned (.string (joinT ws.tail)) ∧ Below w.heap.size w w' := by
  have htl : ws.tail.length = nl := by rw [HN.out, List.length_tail]
  by_cases h0 : nl = 0
  ·have e0 : ws.tail = [] := List.eq_nil_of_length_eq_zero (by omega)
   rw [h0, e0]
   refine (Tryz.strings_Join_none A 0 ⟨#[32]⟩ w).mono ?_
   rintro e w' ⟨rfl, rfl⟩
   exact ⟨rfl, Below.refl _ _⟩
  have e1 : A = some ⟨b, 1, none⟩ := by rw [HA.out, if_neg (by have := HN.out; omega)]
  have hj := Tryz.strings_Join b 1 nl ws.tail ⟨#[32]⟩ w (fun j x hx => ?_) (blk_lt HR.out) (by have := HL.out; have := HN.out; omega) (by omega) (by have := HSZ.out; have e : (joinT ws.tail).size = (Lib.join (ws.tail.map (·.data.toList)) [32]).length := List.size_toArray; rw [e] at this; exact Nat.le_trans (Nat.le_of_lt this) (by decide))
  ·rw [htl] at hj
   rw [e1]
   exact hj
  ·rw [Nat.add_comm, blk_cell HR.out (j + 1)]
   have hx' : ws[j + 1]? = some x := by rw [← hx, List.getElem?_tail]
   simp [hx']
 refine hj.mono ?_
 rintro e w1 ⟨rfl, hb⟩
 have HTL1 := am (TabAt.below HTL.out hb)
 have HTM1 := am (TabM.below HTM.out hb)
 have HS1 := am (HS.out.below hb)
 have HK1 := am (Kb.of_below hb g)
 have HB1 := am (Nat.le_trans HBW.out hb.size)
 clear hb hj HTL HTM HS HBW HR
 go_wp2_with fail
 refine (impl_MelodyFrom.calls n (joinT ws.tail) r ok w1 HTL1.out HTM1.out H.out).mono ?_
 rintro e w2 ⟨v, rfl, ho, hb⟩
 have HS2 := am (HS1.out.below hb)
 have HK2 := am (HK1.out.trans (Kb.of_below hb g))
 have HO := am (Kd.R_lower ho HB1.out)
 clear hb ho HS1 HK1 HTL1 HTM1
 go_wp2_with fail
 refine (become_any base g m r v ok w2 HS2.out HO.out).mono ?_
 rintro e w3 ⟨rfl, hk, hs⟩
 have HS3 := am (show Ses base w3 g rr by rw [HRR.out]; exact hs)
 have HK3 := am (HK2.out.trans hk)
 clear hs hk
 go_wp2_with fail
 go_ret
 exact ⟨rfl, HK3.out, HS3.out⟩
theorem ses_cell {base : Nat} {W : World} {g : Nat} {m : List S74} (h : Ses base W g m) : ∃ A c, W.cell? ⟨g, 0, none⟩ = some (.slice A m.length c) ∧ Kd.C k74 W A m.length m ∧ m.length ≤ c := by
 obtain ⟨A, c, A1, c1, hb, hg, hm⟩ := h
 by_cases h0 : m = []
 ·subst h0
  exact ⟨A, c, (blk_cell hb 0).trans rfl, ⟨rfl, by simp, fun h => absurd h (Nat.lt_irrefl 0)⟩, Nat.zero_le _⟩
 ·have hr := Kd.R_reads' (hm h0)
  exact ⟨A, c, (blk_cell hb 0).trans rfl, hr.2.2, hr.2.1⟩
def melB : ByteArray := ⟨#[109, 101, 108, 111, 100, 121]⟩
def melSB : ByteArray := ⟨#[109, 101, 108, 111, 100, 121, 32]⟩
def showT (t : ByteArray) (m : List S74) : ByteArray := if m.length = 0 then melB else melSB ++ t
theorem runShow_any (n base g : Nat) (m : List S74) (t : ByteArray) (v : Value) (w : World) (hTL : TabL w) (hs : Ses base w g m) (h : impl_MelodyText.f n m = some t) (ht : t.size < 1000000) :
  Calls Tryz.prog 146 #[.pointer (some ⟨g, 0, none⟩), v] w fun e w' => e = .returned (.string (showT t m)) ∧ Kb w w' g ∧ Ses base w' g m := by
 obtain ⟨A, c, hc, hC, hm⟩ := ses_cell hs
 have HTL := am hTL
 have HS := am hs
 have H := am h
 have HC := am hC
 have HM := am hm
 have s1 : (9223372036854775807 < 7 + t.size) = False := eq_false (by omega)
 clear hTL hs h hC hm ht
 by_cases h0 : m.length = 0
 ·have b0 : ((m.length : Int) == 0) = true := by rw [h0]; rfl
  have HZ := am h0
  clear h0
  go_enter Tryz.func146, Tryz.ntmps146
  go_wp2_with fail
  go_ret
  exact ⟨by rw [showT, if_pos HZ.out]; rfl, Kb.refl _ _, HS.out⟩
 have b0 : ((m.length : Int) == 0) = false := beq_eq_false_iff_ne.2 (by omega)
 have HZ := am h0
 clear h0
 go_enter Tryz.func146, Tryz.ntmps146
 go_wp2_with fail
 refine (impl_MelodyText.calls n A c m t w HC.out HM.out HTL.out H.out).mono ?_
 rintro e w1 ⟨rfl, hb⟩
 have HS1 := am (HS.out.below hb)
 have HK1 := am (Kb.of_below hb g)
 clear hb HS HC HTL hc
 go_wp2_with fail
 go_ret
 exact ⟨by rw [showT, if_neg HZ.out]; rfl, HK1.out, HS1.out⟩

def stB : ByteArray := ⟨#[115, 116, 101, 112, 115]⟩
theorem runSteps_any (n base g : Nat) (m : List S74) (L : List Int) (r : ByteArray) (v : Value) (w : World) (hTP : TabP w) (hs : Ses base w g m) (hL : impl_MelodySteps.f n m = some L) (hr : impl_withNumbers.f n stB L = some r) :
  Calls Tryz.prog 147 #[.pointer (some ⟨g, 0, none⟩), v] w fun e w' => e = .returned (.string r) ∧ Kb w w' g ∧ Ses base w' g m := by
 obtain ⟨A, c, hc, hC, hm⟩ := ses_cell hs
 have HTP := am hTP
 have HS := am hs
 have HL := am hL
 have HR := am hr
 have HC := am hC
 have HM := am hm
 clear hTP hs hL hr hC hm
 go_enter Tryz.func147, Tryz.ntmps147
 go_wp2_with fail
 refine (impl_MelodySteps.calls n A c m L w HC.out HM.out HL.out).mono ?_
 rintro e w1 ⟨v1, rfl, ho, hb⟩
 have HS1 := am (HS.out.below hb)
 have HK1 := am (Kb.of_below hb g)
 have HTP1 : Aside0 (TabP w1) := ⟨TabP.below HTP.out hb⟩
 obtain ⟨A1, c1, rfl⟩ := Kd.R_slice ho
 have HO := am (Kd.R_reads' ho)
 clear hb ho HS HTP HC hc
 go_wp2_with fail
 refine (impl_withNumbers.calls n stB A1 c1 L r w1 HO.out.2.2 HO.out.2.1 HTP1.out HR.out).mono ?_
 rintro e w2 ⟨rfl, hb⟩
 have HS2 := am (HS1.out.below hb)
 have HK2 := am (HK1.out.trans (Kb.of_below hb g))
 clear hb HS1 HK1
 go_wp2_with fail
 go_ret
 exact ⟨rfl, HK2.out, HS2.out⟩
theorem runSing_any (n base g : Nat) (m : List S74) (L : List Int) (r : ByteArray) (v : Value) (w : World) (hTL : TabL w) (hTS : TabS w) (hs : Ses base w g m) (hbw : base ≤ w.heap.size) (hSB : impl_SingBest.f n m = some (L, true)) (hL : L.length ≠ 0) (hr : impl_SingText.f n m L = some r) :
  Calls Tryz.prog 148 #[.pointer (some ⟨g, 0, none⟩), v] w fun e w' => e = .returned (.string r) ∧ Kb w w' g ∧ Ses base w' g m := by
 obtain ⟨A, c, hc, hC, hm⟩ := ses_cell hs
 have HTL : Aside0 (TabL w) := ⟨hTL⟩
 have HTS : Aside0 (TabS w) := ⟨hTS⟩
 have HS := am hs
 have HSB := am hSB
 have HR := am hr
 have HC := am hC
 have HM := am hm
 have HG := am hs.lt
 have b0 : ((L.length : Int) == 0) = false := beq_eq_false_iff_ne.2 (by omega)
 clear hTL hTS hs hSB hr hC hm hL hbw
 go_enter Tryz.func148, Tryz.ntmps148
 go_wp2_with fail
 refine (impl_SingBest.calls n A c m L true w HC.out HM.out HTL.out HSB.out).mono ?_
 rintro e w1 ⟨v1, rfl, ho, hb⟩
 have HS1 := am (HS.out.below hb)
 have HK1 := am (Kb.of_below hb g)
 have HTL1 : Aside0 (TabL w1) := ⟨TabAt.below HTL.out hb⟩
 have HTS1 : Aside0 (TabS w1) := ⟨TabAt.below HTS.out hb⟩
 have HC1 := am (Kd.C_below HC.out hb)
 have hc1 := pw_cell_below hb hc
 obtain ⟨A1, c1, rfl⟩ := Kd.R_slice ho
 have HO := am (Kd.R_reads' ho)
 clear hb ho HS HTL HTS HC hc
 go_wp2_with fail
 refine (impl_SingText.calls n A c m A1 c1 L r w1 HC1.out HM.out HO.out.2.2 HO.out.2.1 HTL1.out HTS1.out HR.out).mono ?_
 rintro e w2 ⟨rfl, hb⟩
 have HS2 := am (HS1.out.below hb)
 have HK2 := am (HK1.out.trans (Kb.of_below hb g))
 clear hb HS1 HK1 hc1 HC1
 go_wp2_with fail
 go_ret
 exact ⟨rfl, HK2.out, HS2.out⟩
def stepL (n : Nat) (m : List S74) (line : ByteArray) : Option (List S74 × ByteArray) :=
 if line.size < 4294967281 then
  if cmdT.findIdx? (cmdM (splitS line)) = some 0 then (impl_MelodyFrom.f n (joinT (splitS line).tail)).bind fun p => some (if p.2 = true then p.1 else m, saidB p.2)
  else if cmdT.findIdx? (cmdM (splitS line)) = some 3 then (impl_MelodyText.f n m).bind fun t => if t.size < 1000000 then some (m, showT t m) else none
  else if cmdT.findIdx? (cmdM (splitS line)) = some 4 then (impl_MelodySteps.f n m).bind fun L => (impl_withNumbers.f n stB L).bind fun r => some (m, r)
  else if cmdT.findIdx? (cmdM (splitS line)) = some 5 then (impl_SingBest.f n m).bind fun p => if p.2 = true ∧ p.1.length ≠ 0 then (impl_SingText.f n m p.1).bind fun r => some (m, r) else none
  else none
 else none
theorem stepL_mono (n : Nat) (m : List S74) (line : ByteArray) : LeO (stepL n m line) (stepL (n + 1) m line) := by
 unfold stepL
 split
 ·split
  ·exact LeO.bind (impl_MelodyFrom.mono _ _) (fun _ => LeO.refl _)
  ·split
   ·exact LeO.bind (impl_MelodyText.mono _ _) (fun _ => LeO.refl _)
   ·split
    ·exact LeO.bind (impl_MelodySteps.mono _ _) (fun _ => LeO.bind (impl_withNumbers.mono _ _ _) (fun _ => LeO.refl _))
    ·split
     ·refine LeO.bind (impl_SingBest.mono _ _) (fun p => ?_)
      split
      ·exact LeO.bind (impl_SingText.mono _ _ _) (fun _ => LeO.refl _)
      ·exact LeO.none _
     ·exact LeO.none _
 ·exact LeO.none _
theorem stepL_ok {n : Nat} {m m' : List S74} {line out : ByteArray} (h : stepL n m line = some (m', out)) : LineOk (fun w => TabL w ∧ TabS w ∧ TabP w) m line out m' := by
 unfold stepL at h
 have hTb : ∀ w w1 : World, Below w.heap.size w w1 → TabL w ∧ TabS w ∧ TabP w → TabL w1 ∧ TabS w1 ∧ TabP w1 := fun w w1 hb h => ⟨TabAt.below h.1 hb, TabAt.below h.2.1 hb, TabP.below h.2.2 hb⟩
 have hl9 := splitS_le line
 have hl8 := splitS_len line
 split at h
 ·rename_i hsz
  split at h
  ·rename_i hix
   obtain ⟨⟨r, ok⟩, ho, h⟩ := Option.bind_eq_some_iff.1 h
   obtain ⟨rfl, rfl⟩ : (if ok = true then r else m) = m' ∧ saidB ok = out := by simpa using h
   exact line_by 0 cmdT[0] hTb hsz rfl hix (fn := Tryz.f143) Tryz.func143 (by kernel_rfl) rfl (fun base g b w1 hM hT hs hbw hgb hr => runMelody_any n base g b m r ok (splitS line) w1 hT.1 hM hs hbw hr (by omega) (by omega) ho)
  ·split at h
   ·rename_i hix
    obtain ⟨t, ht, h⟩ := Option.bind_eq_some_iff.1 h
    split at h
    ·rename_i hts
     obtain ⟨rfl, rfl⟩ : m = m' ∧ showT t m = out := by simpa using h
     exact line_by 3 cmdT[3] hTb hsz rfl hix (fn := Tryz.f146) Tryz.func146 (by kernel_rfl) rfl (fun base g b w1 hM hT hs hbw hgb hr => runShow_any n base g m t _ w1 hT.1 hs ht hts)
    ·exact absurd h (by simp)
   ·split at h
    ·rename_i hix
     obtain ⟨L, hL, h⟩ := Option.bind_eq_some_iff.1 h
     obtain ⟨r, hr, h⟩ := Option.bind_eq_some_iff.1 h
     obtain ⟨rfl, rfl⟩ : m = m' ∧ r = out := by simpa using h
     exact line_by 4 cmdT[4] hTb hsz rfl hix (fn := Tryz.f147) Tryz.func147 (by kernel_rfl) rfl (fun base g b w1 hM hT hs hbw hgb hr2 => runSteps_any n base g m L r _ w1 hT.2.2 hs hL hr)
    ·split at h
     ·rename_i hix
      obtain ⟨⟨L, ok⟩, hL, h⟩ := Option.bind_eq_some_iff.1 h
      dsimp only at h
      split at h
      ·rename_i hc
       obtain ⟨rfl, h0⟩ := hc
       obtain ⟨r, hr, h⟩ := Option.bind_eq_some_iff.1 h
       obtain ⟨rfl, rfl⟩ : m = m' ∧ r = out := by simpa using h
       exact line_by 5 cmdT[5] hTb hsz rfl hix (fn := Tryz.f148) Tryz.func148 (by kernel_rfl) rfl (fun base g b w1 hM hT hs hbw hgb hr2 => runSing_any n base g m L r _ w1 hT.1 hT.2.1 hs hbw hL h0 hr)
      ·exact absurd h (by simp)
     ·exact absurd h (by simp)
 ·exact absurd h (by simp)
def impl_Execute.f (n : Nat) (a0 : ByteArray) : Option ByteArray := if a0.size ≤ 400 then (execGo (stepL n) n [] ⟨#[]⟩ a0.data.toList).bind fun p => if p.1.length < 25 ∧ p.2.size < 2000000 then some (execTxt p.2 p.1.length) else none else none
theorem impl_Execute.mono : ∀ a0 n, LeO (impl_Execute.f n a0) (impl_Execute.f (n + 1) a0) := fun a0 n => by
 unfold impl_Execute.f
 split
 ·exact LeO.bind (execGo_mono (fun m l => stepL_mono n m l) n _ _ _) (fun _ => LeO.refl _)
 ·exact LeO.none _
theorem impl_Execute.calls (n : Nat) (a0 : ByteArray) (r : ByteArray) (w : World) (hTL : TabL w) (hTM : TabM w) (hTP : TabP w) (hTS : TabS w) (h : impl_Execute.f n a0 = some r) :
  Calls Tryz.prog 12 #[.string a0] w fun e w' => e = .returned (.string r) ∧ Below w.heap.size w w' := by
 unfold impl_Execute.f at h
 split at h
 ·rename_i hs
  obtain ⟨⟨M, OUT⟩, he, h⟩ := Option.bind_eq_some_iff.1 h
  dsimp only at h
  split at h
  ·rename_i hc
   obtain rfl := Option.some.inj h
   exact exec_any (fun w => TabL w ∧ TabS w ∧ TabP w) (fun w w1 hb h => ⟨TabAt.below h.1 hb, TabAt.below h.2.1 hb, TabP.below h.2.2 hb⟩) (stepL n) (fun _ _ _ _ h => stepL_ok h) n a0 M OUT he hs hc.1 hc.2 w hTM ⟨hTL, hTS, hTP⟩
  ·exact absurd h (by simp)
 ·exact absurd h (by simp)


/-! ### laws_sameInts: function 19 -/
def laws_sameInts.l0 : Nat → List Int → List Int → Int → Option (Bool)
 | 0, _, _, _ => none
 | k + 1, x0, x1, x5 => if x5 < (x0.length : Int) then (if 0 ≤ x5 then (if x5 < (x1.length : Int) then (if (rd x0 x5) = (rd x1 x5) then (laws_sameInts.l0 k x0 x1 (wrap64 (x5 + 1))) else (some false)) else (none)) else (none)) else (some true)
def laws_sameInts.f (k : Nat) (l0 : List Int) (l1 : List Int) : Option (Bool) := if (l0.length : Int) = (l1.length : Int) then (laws_sameInts.l0 k l0 l1 0) else (some false)
theorem laws_sameInts.calls (k : Nat) (A0 : Option Addr) (c0 : Nat) (l0 : List Int) (A1 : Option Addr) (c1 : Nat) (l1 : List Int) (r : Bool) (w : World) (hr0 : Kd.C (Kd.int .i64) w A0 l0.length l0) (hc0 : l0.length ≤ c0) (hr1 : Kd.C (Kd.int .i64) w A1 l1.length l1) (hc1 : l1.length ≤ c1) (h : laws_sameInts.f k l0 l1 = some r) :
  Calls Tryz.prog 19 #[.slice A0 l0.length c0, .slice A1 l1.length c1] w fun e w' => e = .returned (.bool r) ∧ Drawn0 w w' := by
 have HR0 := am hr0
 have HC0 := am hc0
 clear hr0 hc0
 have HR1 := am hr1
 have HC1 := am hc1
 clear hr1 hc1
 have H : (if (l0.length : Int) = (l1.length : Int) then (laws_sameInts.l0 k l0 l1 0) else (some false)) = some r := h
 clear h
 by_cases c3 : (l0.length : Int) = (l1.length : Int)
 ·rw [if_pos c3] at H
  have c3b0 : ((l0.length : Int) == (l1.length : Int)) = true := beq_iff_eq.mpr c3
  have c3b1 : ((l0.length : Int) != (l1.length : Int)) = false := bne_eq_false_iff_eq.mpr c3
  have c3b2 : (l0.length == l1.length) = true := by first | simpa using c3 | (simp at c3 ⊢; omega)
  clear c3
  have H' := am H
  clear H
  go_enter Tryz.func19, Tryz.ntmps19
  go_wp2
  repeat (go_quiet (fail); try go_wp2)
  go_loopg [5] k (fun kq v5 w' => ∃ (x5_1 : Int), v5 = .int .i64 x5_1 ∧ Aside0 (laws_sameInts.l0 kq l0 l1 x5_1 = some r) ∧ Aside0 (kq ≤ k) ∧ Drawn0 w w')
  case atStart => exact ⟨(0), (by first | rfl | simp | simp [*]), H', ⟨Nat.le_refl _⟩, by repeat (first | exact Drawn0.refl _ | apply Drawn0.step)⟩
  case round =>
   clear H'
   (try clear c1); (try clear p2); (try clear c3); (try clear c3b0); (try clear c3b1); (try clear c3b2)
   obtain ⟨x5_1, rfl, HA, HK1, ⟨m1, rfl⟩⟩ := hrel
   cases gk with
   | zero => exact absurd HA.out (by simp [laws_sameInts.l0])
   | succ k1 =>
    have H := HA.out
    clear HA
    simp only [laws_sameInts.l0] at H
    by_cases c4 : x5_1 < (l0.length : Int)
    ·rw [if_pos c4] at H
     have c4b0 : decide (x5_1 < (l0.length : Int)) = true := decide_eq_true c4
     clear c4
     by_cases c5 : 0 ≤ x5_1
     case neg => rw [if_neg c5] at H; exact absurd H (by simp)
     rw [if_pos c5] at H
     have c5b0 : decide (0 ≤ x5_1) = true := decide_eq_true c5
     clear c5
     by_cases c6 : x5_1 < (l1.length : Int)
     case neg => rw [if_neg c6] at H; exact absurd H (by simp)
     rw [if_pos c6] at H
     have c6b0 : decide (x5_1 < (l1.length : Int)) = true := decide_eq_true c6
     clear c6
     by_cases c7 : (rd l0 x5_1) = (rd l1 x5_1)
     ·rw [if_pos c7] at H
      have c7b0 : ((rd l0 x5_1) == (rd l1 x5_1)) = true := beq_iff_eq.mpr c7
      have c7b1 : ((rd l0 x5_1) != (rd l1 x5_1)) = false := bne_eq_false_iff_eq.mpr c7
      clear c7
      have H' := am H
      clear H
      have p126 : 0 ≤ (x5_1 : Int) := od
      have q126 : x5_1 < (l0.length : Int) := od
      obtain ⟨ad126, e126, hx126_0⟩ := Kd.at_int HR0.out x5_1 p126 q126
      cases e126
      replace p126 := eq_true p126
      replace q126 := eq_true q126
      have p127 : 0 ≤ (x5_1 : Int) := od
      have q127 : x5_1 < (l1.length : Int) := od
      obtain ⟨ad127, e127, hx127_0⟩ := Kd.at_int HR1.out x5_1 p127 q127
      cases e127
      replace p127 := eq_true p127
      replace q127 := eq_true q127
      go_wp2
      repeat (go_quiet (fail); try go_wp2)
      go_roundg k1
      case measure => have := HK1.out; omega
      case rel => exact ⟨(wrap64 (x5_1 + 1)), (by first | rfl | simp | simp [*]), H', ⟨by have := HK1.out; omega⟩, by repeat (first | exact Drawn0.refl _ | apply Drawn0.step)⟩
     rw [if_neg c7] at H
     have c7b0 : ((rd l0 x5_1) == (rd l1 x5_1)) = false := beq_eq_false_iff_ne.mpr c7
     have c7b1 : ((rd l0 x5_1) != (rd l1 x5_1)) = true := bne_iff_ne.mpr c7
     obtain rfl := Option.some.inj H
     have p126 : 0 ≤ (x5_1 : Int) := od
     have q126 : x5_1 < (l0.length : Int) := od
     obtain ⟨ad126, e126, hx126_0⟩ := Kd.at_int HR0.out x5_1 p126 q126
     cases e126
     replace p126 := eq_true p126
     replace q126 := eq_true q126
     have p127 : 0 ≤ (x5_1 : Int) := od
     have q127 : x5_1 < (l1.length : Int) := od
     obtain ⟨ad127, e127, hx127_0⟩ := Kd.at_int HR1.out x5_1 p127 q127
     cases e127
     replace p127 := eq_true p127
     replace q127 := eq_true q127
     go_wp2
     repeat (go_quiet (fail); try go_wp2)
     go_ret
     exact ⟨by first | rfl | simp | simp [*], by repeat (first | exact Drawn0.refl _ | apply Drawn0.step)⟩
    rw [if_neg c4] at H
    have c4b0 : decide (x5_1 < (l0.length : Int)) = false := decide_eq_false c4
    clear c4
    obtain rfl := Option.some.inj H
    go_wp2
    repeat (go_quiet (fail); try go_wp2)
    go_ret
    exact ⟨by first | rfl | simp | simp [*], by repeat (first | exact Drawn0.refl _ | apply Drawn0.step)⟩
 rw [if_neg c3] at H
 have c3b0 : ((l0.length : Int) == (l1.length : Int)) = false := beq_eq_false_iff_ne.mpr c3
 have c3b1 : ((l0.length : Int) != (l1.length : Int)) = true := bne_iff_ne.mpr c3
 have c3b2 : (l0.length == l1.length) = false := by first | simpa using c3 | (simp at c3 ⊢; omega)
 obtain rfl := Option.some.inj H
 go_enter Tryz.func19, Tryz.ntmps19
 go_wp2
 repeat (go_quiet (fail); try go_wp2)
 go_ret
 exact ⟨by first | rfl | simp | simp [*], by repeat (first | exact Drawn0.refl _ | apply Drawn0.step)⟩

end Go.Proofs.YtjnkmckklmabcaaGreatDoor.XL
