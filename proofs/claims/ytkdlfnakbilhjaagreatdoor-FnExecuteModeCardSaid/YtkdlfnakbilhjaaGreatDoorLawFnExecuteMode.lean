/- FnExecuteMode: for every list of at most 1048576 bytes, the law of Execute's mode, enter and find holds of the chant that the reference draws from it, and the list reads as before (longer lists the statement lets pass). The tables modeRows, letterNames and letterHeights are tied to the text of the program; of the library's own variable internal/bytealg.MaxLen the shape of the world alone is used. No condition beyond the own ones of the statement. -/
import Derived.Test.YtkdlfnakbilhjaaGreatDoorRows
import Derived.Test.YtkdlfnakbilhjaaGreatDoorXKx10
import Derived.Test.YtkdlfnakbilhjaaGreatDoorPureFnExecuteMode
import Derived.WalkKit
import Derived.ProofKit
import Derived.OpenShut
import Derived.ShutString
import Derived.ChangeOld
import Derived.Below
import Derived.SizedLaws
import Derived.Lib.SmallJoins
import Derived.Deep.Slices
import Derived.Test.YtkdlfnakbilhjaaGreatDoorWSized
import Derived.Test.YtkdlfnakbilhjaaGreatDoorCards
import Derived.Test.YtkdlfnakbilhjaaGreatDoorTie
import Derived.Test.YtkdlfnakbilhjaaGreatDoorLDoorXK
import Derived.LaidMore
import Derived.Lay
import Derived.Stop.Joined
import Derived.SevenTiedAt
namespace Go.Proofs.YtkdlfnakbilhjaaGreatDoor.fnExecuteMode
open Go.ChangeShapes Go.WideShapes Go.ChangeAt Go.RowKit Go.Proofs.YtkdlfnakbilhjaaGreatDoor.XK Go.Proofs.YtkdlfnakbilhjaaGreatDoorW.PrintWords Go.Proofs.YtkdlfnakbilhjaaGreatDoorW.PrintLast
open Go.ChangeMaps (open_string shut_string)
set_option linter.unusedVariables false
set_option linter.unusedSimpArgs false
theorem own : ownKnob Tryz.prog.godebug = none := by kernel_rfl
theorem laidOut : laidOutB Tryz.prog = true := by kernel_rfl
def IsRow (k : IntKind) (w : World) (a : Option Addr) (len cap : Nat) (zs : List Int) : Prop :=
  (a = none ∧ len = 0 ∧ cap = 0 ∧ zs = []) ∨
  ∃ x, a = some x ∧ len ≤ cap ∧ cap ≤ maxLen ∧ zs.length = cap ∧ (∀ i, i < zs.length → w.cell? (x.add i) = some (.int k (zs.getD i 0))) ∧ ∀ n ∈ zs, (Lit.int k n).wf = true

set_option maxRecDepth 100000 in
theorem door_met (os : Os) (args : Array Value) : laidMetH Tryz.prog Rows.fnExecuteModeRow.laid ((World.laidAll Tryz.prog os Rows.fnExecuteModeRow.laid).forCall (fun _ _ => 0) ⟨#[], args, []⟩).memory :=
  by rw [MakeChecks.laidMetH_plain _ _ _ (by kernel_rfl)]; exact laidMet_laidAll _ (by kernel_rfl) (by kernel_rfl)
set_option maxRecDepth 100000 in
theorem tabD_of {W : World} (h : laidMetH Tryz.prog Rows.fnExecuteModeRow.laid W) : TabD W :=
  Go.Proofs.YtkdlfnakbilhjaaGreatDoor.LDoorXK.tabD_by (fun q j hq hj => by
    have k := Go.Proofs.YtkdlfnakbilhjaaGreatDoor.LDoorXK.tab_rows4 (laid := Rows.fnExecuteModeRow.laid) (n := "loop.example/neumes/impl.modeRows") (g := 1) (t := 93) (e := 78) (ti := 3) (ss := mRows) (by kernel_rfl) h (List.Mem.tail _ (List.Mem.tail _ (List.Mem.tail _ (List.Mem.tail _ (List.Mem.tail _ (List.Mem.tail _ (List.Mem.tail _ (List.Mem.tail _ (List.Mem.head _))))))))) (by kernel_rfl) (by kernel_rfl) Tryz.underlying93 Tryz.underlying78 (by intro j hj; rcases (show j = 0 ∨ j = 1 ∨ j = 2 ∨ j = 3 by omega) with rfl | rfl | rfl | rfl <;> exact ⟨_, rfl, rfl, rfl⟩) (by kernel_rfl) Tryz.underlying3 (by kernel_rfl) q j hq hj
    have e : mRows.getD q (0, 0, 0, 0) = mRows[q]'hq := by rw [List.getD_eq_getElem?_getD, List.getElem?_eq_getElem (show q < mRows.length from hq)]; rfl
    rw [e]
    exact k)
set_option maxRecDepth 100000 in
theorem tabH_of {W : World} (h : laidMetH Tryz.prog Rows.fnExecuteModeRow.laid W) : TabH W :=
  Go.Proofs.YtkdlfnakbilhjaaGreatDoor.LDoorXK.tab_ints (laid := Rows.fnExecuteModeRow.laid) (n := "loop.example/neumes/impl.letterHeights") (g := 8) (t := 177) (e := 3) (ss := [0, 2, 4, 5, 7, 9, 10]) (by kernel_rfl) h (List.Mem.tail _ (List.Mem.tail _ (List.Mem.tail _ (List.Mem.tail _ (List.Mem.tail _ (List.Mem.head _)))))) (by kernel_rfl) (by kernel_rfl) Tryz.underlying177 Tryz.underlying3 (by kernel_rfl)
set_option maxRecDepth 100000 in
theorem tabL_of {W : World} (h : laidMetH Tryz.prog Rows.fnExecuteModeRow.laid W) : TabL W :=
  Go.Proofs.YtkdlfnakbilhjaaGreatDoor.LDoorXK.tab_strs (laid := Rows.fnExecuteModeRow.laid) (n := "loop.example/neumes/impl.letterNames") (g := 0) (t := 90) (e := 9) (ss := [[71], [65], [66], [67], [68], [69], [70]]) (by kernel_rfl) h (List.Mem.tail _ (List.Mem.tail _ (List.Mem.tail _ (List.Mem.tail _ (List.Mem.head _))))) (by kernel_rfl) (by kernel_rfl) Tryz.underlying90 Tryz.underlying9 (by kernel_rfl)
set_option maxRecDepth 100000 in
theorem lifted (os : Os) (started : os.Started) (H : Type) (enc : TypeId × Value → H) :
    ReturnsInHanded {} Tryz.checked os 3 .any (fun w args => (Rows.fnExecuteModeSpec.pre enc Tryz.prog Tryz.f3 [] false w args ∧ laidMetH Tryz.prog Rows.fnExecuteModeRow.laid w) ∧ sizedMet enc Tryz.prog Tryz.f3 (OpenSpec.ofChange Rows.fnExecuteModeSpec) false w args) (Rows.fnExecuteModeSpec.post enc Tryz.prog Tryz.f3 false true false false) := by
  refine Go.Proofs.YtkdlfnakbilhjaaGreatDoor.LDoorXK.change_and_shaped (C := Tryz.checked) (X := (fun w _ => laidMetH Tryz.prog Rows.fnExecuteModeRow.laid w)) (fun _ _ _ hh h => h.of_heap hh) own started (by kernel_rfl) Tryz.func3
    (ChangeSpec.witness_shaped (enc := enc) (C := Tryz.checked) (os := os) (X := (fun w _ => laidMetH Tryz.prog Rows.fnExecuteModeRow.laid w)) false (World.laidAll Tryz.prog os Rows.fnExecuteModeRow.laid) #[.slice none 0 0] 8 (World.laidAll_os _ _ _) (World.shaped_of_RefB (by kernel_rfl) (by kernel_rfl)) (by kernel_rfl) (by kernel_rfl) (by kernel_rfl) (door_met os _)) ?_
  intro W base args ds gs before hval0 hW hcnd hsz0 hL hSh _
  have hTM : TabM W := cell_of_shapedOpen_int (P := Tryz.prog) (g := 2) (t := 3) (zero := #[.int .i64 0]) hSh (of_decide_eq_true (by kernel_rfl)) (by kernel_rfl) rfl (by kernel_rfl) (by kernel_rfl) Tryz.underlying3
  have hTD := tabD_of hL
  have hTH := tabH_of hL
  have hTL := tabL_of hL
  have hsz : (DataW.weightsEach Tryz.prog (Tryz.f3.params.toList ++ Rows.fnExecuteModeSpec.plain.varTypes Tryz.prog) (ds ++ gs)).all (· ≤ reachBytes) = true := hsz0
  have hval : ∀ (j : Nat) t v, Tryz.f3.params[j]? = some t → args[j]? = some v → Value.okWide Tryz.prog W .any base t v := hval0
  have hW' := hW
  obtain ⟨p, q, hA0, hV, rfl, hfz, hnd⟩ := hW
  have hA : DataW.TrodAll enc Tryz.prog W 0 (fun _ => true) true Tryz.f3.params.toList args.toList ds p := hA0
  rw [Tryz.params3] at hA hval hsz
  obtain ⟨v0, vs0, d0, ds0, p0, q0, hargs, rfl, rfl, h0, r0⟩ := trodAll_cons hA
  obtain ⟨rfl, rfl, rfl⟩ := trodAll_nil r0
  obtain rfl : args = #[v0] := by cases args; simp_all
  obtain ⟨e0', e1', e2', e3', e4', rfl⟩ := Go.Proofs.YtkdlfnakbilhjaaGreatDoor.LDoorXK.five_of (Go.Proofs.YtkdlfnakbilhjaaGreatDoor.LDoorXK.vars_len _ _ _ hV)
  obtain ⟨a0, len0, cap0, rfl⟩ := okWide_slice Tryz.underlying22 (hval 0 22 v0 rfl rfl)
  have k0 := h0
  have lt0 : ∀ x ∈ p0, x.block < W.heap.size := by obtain ⟨m, hm⟩ := k0; exact DataW.trod_lt m _ _ _ hm
  obtain ⟨z0, w0⟩ : ∃ zs, IsRow .u8 W a0 len0 cap0 zs := by
    obtain ⟨fuel, hf⟩ := h0
    rcases open_ints Tryz.underlying22 Tryz.underlying5 (by kernel_rfl) hf with ⟨hcs, _⟩ | ⟨x, l, c, zs, hcs, _, hl, hm, hz, _, hcell, hwz⟩
    · simp [Value.cells] at hcs
      obtain ⟨rfl, rfl, rfl⟩ := hcs
      exact ⟨[], .inl ⟨rfl, rfl, rfl, rfl⟩⟩
    · simp [Value.cells] at hcs
      obtain ⟨rfl, rfl, rfl⟩ := hcs
      exact ⟨zs, .inr ⟨_, rfl, hl, hm, by simpa using hz, hcell, hwz⟩⟩
  have y0 : len0 * 1 ≤ 140737488351232 := sized_ints hsz (j := 0) (t := 22) rfl rfl Tryz.underlying22 Tryz.underlying5 (by kernel_rfl) (by kernel_rfl) h0
  obtain ⟨l0, rfl, hr0, hm0, hw0, hc0⟩ := ReadsInt.ofRowC w0
  clear hA0 hval0 hsz0 hsz
  obtain ⟨k, hk⟩ := PureFnExecuteMode.FnExecuteMode l0 hm0 y0 hw0
  refine (laws_FnExecuteMode.calls k _ _ l0 true W (Kd.C_of_reads (d := (0 : Int)) (h1 := fun _ => rfl) hr0) hc0 hTD hTH hTL hTM hk).mono ?_
  rintro e W' ⟨rfl, bel⟩
  exact ⟨_, rfl, _, _, _, [], _, _, hW', trodAll_mk1 (shut_bool Tryz.underlying4 _), (trodAll_cons_mk (Below.trod laidOut (by kernel_rfl) (of_decide_eq_true (by kernel_rfl)) k0 bel lt0) trodAll_mk0), (Go.Proofs.YtkdlfnakbilhjaaGreatDoor.LDoorXK.vars_stay laidOut bel _ (fun n hn => List.all_eq_true.1 (show ((["loop.example/neumes/impl.modeRows", "loop.example/neumes/impl.letterNames", "loop.example/neumes/impl.letterHeights", "loop.example/neumes/impl.syllableNames", "loop.example/neumes/impl.neumeRows"] : List String).all fun n => Go.Proofs.YtkdlfnakbilhjaaGreatDoor.LDoorXK.tabRow Tryz.prog n) = true by kernel_rfl) n hn) _ _ hV), bel.frame _, fun h => by cases h⟩
theorem over : Rows.fnExecuteModeRow.holds Tryz.pinned (OpenSpec.ofChange Rows.fnExecuteModeSpec) :=
  OpenClaim.holds_of_wide 3 Tryz.f3 rfl rfl rfl rfl rfl rfl rfl ⟨rfl, rfl, rfl, rfl, rfl⟩ rfl rfl rfl rfl rfl (by kernel_rfl) Tryz.func3 (by kernel_rfl)
    (of_decide_eq_true (by kernel_rfl)) (by unfold Func.isWrapper; first | (rw [if_pos (by decide +kernel)]; kernel_rfl) | (rw [if_neg (by decide +kernel)]; exact ⟨rfl, rfl⟩))
    (fun os started H enc _ => lifted os started H enc)
set_option maxRecDepth 100000 in
theorem card_holds : Rows.FnExecuteModeCardSaid :=
  Claim7.holds_tied_plain_at .later [] [.data, .data, .data, .data, .data, .data, .data, .data, .data, .pinned] true (true, "1d261216553008660c0d8e49d712cd57adf068063c019a90c92c1b834e04a309") true
    over (fun _ h => by cases h) (by kernel_rfl) (fun _ h => by cases h) fnExecuteMode_row_tie rfl ⟨rfl, rfl⟩ (by kernel_rfl) rfl
    (fun f fn hf hfn => by
      obtain rfl : f = 3 := Option.some.inj ((show Tryz.prog.funcNamed "loop.example/neumes/laws.FnExecuteMode" = some 3 by kernel_rfl).symm.trans hf) |>.symm
      obtain rfl : fn = Tryz.f3 := (Option.some.inj (Tryz.func3.symm.trans hfn)).symm
      exact ⟨by kernel_rfl, fun j t ht => by
        rw [Tryz.params3] at ht
        have hm : t ∈ [22] := by simpa using Array.mem_of_getElem? ht
        have hall : ([22].all fun u => !Tryz.prog.wantsStandIn u) = true := by kernel_rfl
        exact (show Tryz.prog.wantsStandIn t = false by simpa using List.all_eq_true.1 hall t hm)⟩)
    (by kernel_rfl)
#print axioms card_holds
end Go.Proofs.YtkdlfnakbilhjaaGreatDoor.fnExecuteMode
namespace Go.Proofs.YtkdlfnakbilhjaaGreatDoor
/-- The card, under a short name, for the claim. -/
theorem fnExecuteMode_holds : Rows.FnExecuteModeCardSaid := fnExecuteMode.card_holds
end Go.Proofs.YtkdlfnakbilhjaaGreatDoor
