/- FnExactDiscantMove: for every list of voices with at most 1048576 of them and every number of steps the program's DiscantMove answers as the reference's does, leaves its argument alone, and its answer lies apart from it (longer lists the statement lets pass). The table letterHeights is tied to the program's text. No condition beyond the statement's own. -/
import Derived.Test.YtgiobmceippanaaDoorRows
import Derived.Test.YtgiobmceippanaaDoorGMx8
import Derived.Test.YtgiobmceippanaaDoorPureFnExactDiscantMove
import Derived.WalkKit
import Derived.ProofKit
import Derived.OpenShut
import Derived.ShutString
import Derived.ChangeOld
import Derived.Below
import Derived.SizedLaws
import Derived.Lib.SmallJoins
import Derived.Deep.Slices
import Derived.Test.YtgiobmceippanaaDoorWSized
import Derived.Test.YtgiobmceippanaaDoorCards
import Derived.Test.YtgiobmceippanaaDoorTie
import Derived.Test.YtgiobmceippanaaDoorLDoorGM
import Derived.LaidMore
import Derived.Stop.Joined
import Derived.SevenTiedAt
namespace Go.Proofs.YtgiobmceippanaaDoor.fnExactDiscantMove
open Go.ChangeShapes Go.WideShapes Go.ChangeAt Go.RowKit Go.Proofs.YtgiobmceippanaaDoor.GM Go.Proofs.YtgiobmceippanaaDoorW.PrintWords Go.Proofs.YtgiobmceippanaaDoorW.PrintLast
open Go.ChangeMaps (open_string shut_string)
set_option linter.unusedVariables false
set_option linter.unusedSimpArgs false
theorem own : ownKnob Tryd.prog.godebug = none := by kernel_rfl
theorem laidOut : laidOutB Tryd.prog = true := by kernel_rfl
def IsRow (k : IntKind) (w : World) (a : Option Addr) (len cap : Nat) (zs : List Int) : Prop :=
  (a = none ∧ len = 0 ∧ cap = 0 ∧ zs = []) ∨
  ∃ x, a = some x ∧ len ≤ cap ∧ cap ≤ maxLen ∧ zs.length = cap ∧ (∀ i, i < zs.length → w.cell? (x.add i) = some (.int k (zs.getD i 0))) ∧ ∀ n ∈ zs, (Lit.int k n).wf = true
theorem c_Tone : Tryd.prog.cellsOf 67 = 2 := by kernel_rfl
theorem two_of {α : Type} {l : List α} (h : l.length = 2) : ∃ a b, l = [a, b] := by
  match l, h with
  | [a, b], _ => exact ⟨a, b, rfl⟩
theorem three_of {α : Type} {l : List α} (h : l.length = 3) : ∃ a b c, l = [a, b, c] := by
  match l, h with
  | [a, b, c], _ => exact ⟨a, b, c, rfl⟩
theorem c_int : Tryd.prog.cellsOf 3 = 1 := by kernel_rfl
theorem c_bool : Tryd.prog.cellsOf 4 = 1 := by kernel_rfl
theorem open_Tone {H : Type} {enc : TypeId × Value → H} {W : World} {base : Nat} {spare : Nat → Bool} {held : Bool} {fuel : Nat} {cs : List Value} {x : DataW H × List MemPlace} (h : DataW.trod enc Tryd.prog W base spare held fuel 67 cs = some x) :
    ∃ (a : Int) (b : Bool), cs = [.int .i64 a, .bool b] ∧ (Lit.int .i64 a).wf = true := by
  obtain ⟨xs, n, _, _, hlen, hxl, hg⟩ := DataW.trod_struct Tryd.underlying67 h
  rw [c_Tone] at hlen
  have h0 := hg 0 _ rfl
  have h1 := hg 1 _ rfl
  obtain ⟨c0, c1, rfl⟩ := two_of hlen
  obtain ⟨y0, y1, rfl⟩ := two_of hxl
  simp [c_int, c_bool] at h0 h1
  obtain ⟨a, e0, _, wa⟩ := DataW.trod_int Tryd.underlying3 h0
  obtain ⟨b, e1, _⟩ := DataW.trod_bool Tryd.underlying4 h1
  simp at e0 e1
  subst e0 e1
  exact ⟨a, b, rfl, wa⟩
theorem c_Voice : Tryd.prog.cellsOf 69 = 3 := by kernel_rfl
theorem open_Voice {H : Type} {enc : TypeId × Value → H} {W : World} {base : Nat} {spare : Nat → Bool} {held : Bool} {fuel : Nat} {cs : List Value} {x : DataW H × List MemPlace} (h : DataW.trod enc Tryd.prog W base spare held fuel 69 cs = some x) :
    ∃ (a : Int) (b : Bool) (c : Int), cs = [.int .i64 a, .bool b, .int .i64 c] ∧ (Lit.int .i64 a).wf = true ∧ (Lit.int .i64 c).wf = true := by
  obtain ⟨xs, n, _, _, hlen, hxl, hg⟩ := DataW.trod_struct Tryd.underlying69 h
  rw [c_Voice] at hlen
  have h0 := hg 0 _ rfl
  have h1 := hg 1 _ rfl
  obtain ⟨c0, c1, c2, rfl⟩ := three_of hlen
  obtain ⟨y0, y1, rfl⟩ := two_of hxl
  simp [c_int, c_Tone] at h0 h1
  obtain ⟨a, b, e0, wa⟩ := open_Tone h0
  obtain ⟨c, e1, _, wc⟩ := DataW.trod_int Tryd.underlying3 h1
  simp at e0 e1
  obtain ⟨rfl, rfl⟩ := e0
  subst e1
  exact ⟨a, b, c, rfl, wa, wc⟩
def WF_Voice (x : S69) : Prop := (Lit.int .i64 x.f0.f0).wf = true ∧ (Lit.int .i64 x.f1).wf = true
instance : Inhabited S69 := ⟨z69⟩
theorem row_Voice {H : Type} {enc : TypeId × Value → H} {W : World} {base : Nat} {spare : Nat → Bool} {held : Bool} {a : Option Addr} {len cap : Nat} {d : DataW H} {ps : List MemPlace} (h : DataW.Trod enc Tryd.prog W base spare held 31 (.slice a len cap) d ps) :
    ∃ l : List S69, len = l.length ∧ l.length ≤ maxLen ∧ l.length ≤ cap ∧ Kd.C k69 W a l.length l ∧ ∀ x ∈ l, WF_Voice x := by
  obtain ⟨fuel, hf⟩ := h
  rcases Go.Deep.open_slice Tryd.underlying31 hf with ⟨hcs, _⟩ | ⟨ad, len', cap', m, n, D, Pl, hcs, _, hl, hm, hmm, _, hel⟩
  · simp [Value.cells] at hcs
    obtain ⟨rfl, rfl, rfl⟩ := hcs
    exact ⟨[], rfl, by simp, by simp, Kd.C_nil _ _, by simp⟩
  · simp [Value.cells] at hcs
    obtain ⟨rfl, rfl, rfl⟩ := hcs
    have hlm : len ≤ m := by rw [hmm]; split; exact hl; exact Nat.le_refl _
    have key : ∀ i, i < len → ∃ s : S69, WF_Voice s ∧ ∀ j u, ([.int .i64 (s).f0.f0, .bool (s).f0.f1, .int .i64 (s).f1] : List Value)[j]? = some u → W.cell? (ad.add (i * 3 + j)) = some u := by
      intro i hi
      obtain ⟨cs', hc, ht⟩ := hel i (Nat.lt_of_lt_of_le hi hlm)
      obtain ⟨a, b, c, rfl, w1, w2⟩ := open_Voice ht
      obtain ⟨_, hcl, hat⟩ := World.cells?_some hc
      rw [c_Voice] at hat
      refine ⟨⟨⟨a, b⟩, c⟩, ⟨w1, w2⟩, fun j u hj => ?_⟩
      have hjn : j < 3 := (List.getElem?_eq_some_iff.1 hj).1
      have := hat j hjn
      rw [Go.Deep.add_add] at this
      rw [this]
      exact hj
    obtain ⟨f, hf⟩ := Go.Deep.choose_lt key
    refine ⟨(List.range len).map f, by simp, by simpa using Nat.le_trans hl hm, by simpa using hl, ⟨by simp, ?_, fun _ => ⟨ad, rfl, fun j p hj => ?_⟩⟩, ?_⟩
    · have := Nat.le_trans hl hm
      unfold maxLen at this
      simpa using this
    · rw [List.getElem?_map] at hj
      by_cases hjl : j < len
      · rw [List.getElem?_range hjl] at hj
        simp at hj
        subst hj
        exact ⟨_, rfl, k69_mk W (f j), (hf j hjl).2⟩
      · rw [List.getElem?_eq_none (by simpa using hjl)] at hj
        simp at hj
    · intro x hx
      obtain ⟨j, hj, rfl⟩ := List.mem_map.1 hx
      exact (hf j (List.mem_range.1 hj)).1
set_option maxRecDepth 100000 in
theorem door_met (os : Os) (args : Array Value) : laidMetH Tryd.prog Rows.fnExactDiscantMoveRow.laid ((World.doorLaid Tryd.prog 400 os).forCall (fun _ _ => 0) ⟨#[], args, []⟩).memory :=
  laidMetH_of_parts3 (fuel := 8) (laidMet_of_run' 8 (by kernel_rfl) (by kernel_rfl)) (by kernel_rfl) (by kernel_rfl)
set_option maxRecDepth 100000 in
theorem tabH_of {W : World} (h : laidMetH Tryd.prog Rows.fnExactDiscantMoveRow.laid W) : TabH W :=
  Go.Proofs.YtgiobmceippanaaDoor.LDoorGM.tab_ints (laid := Rows.fnExactDiscantMoveRow.laid) (n := "loop.example/neumes/impl.letterHeights") (g := 0) (t := 99) (e := 3) (ss := [0, 2, 4, 5, 7, 9, 10]) (by kernel_rfl) h (List.Mem.head _) (by kernel_rfl) (by kernel_rfl) Tryd.underlying99 Tryd.underlying3 (by kernel_rfl)
set_option maxRecDepth 100000 in
theorem lifted (os : Os) (started : os.Started) (H : Type) (enc : TypeId × Value → H) :
    ReturnsInHanded {} Tryd.checked os 4 .any (fun w args => (Rows.fnExactDiscantMoveSpec.pre enc Tryd.prog Tryd.f4 [] false w args ∧ laidMetH Tryd.prog Rows.fnExactDiscantMoveRow.laid w) ∧ sizedMet enc Tryd.prog Tryd.f4 (OpenSpec.ofChange Rows.fnExactDiscantMoveSpec) false w args) (Rows.fnExactDiscantMoveSpec.post enc Tryd.prog Tryd.f4 false true false false) := by
  refine returnsInHanded_of_change_and (C := Tryd.checked) (X := (fun w _ => laidMetH Tryd.prog Rows.fnExactDiscantMoveRow.laid w)) (fun _ _ _ hh h => h.of_heap hh) own started (by kernel_rfl) Tryd.func4
    (ChangeSpec.witness_shaped (enc := enc) (C := Tryd.checked) (os := os) (X := (fun w _ => laidMetH Tryd.prog Rows.fnExactDiscantMoveRow.laid w)) false (World.doorLaid Tryd.prog 400 os) #[.slice none 0 0, .int .i64 0] 8 rfl (World.shaped_of_RefB (by kernel_rfl) (by kernel_rfl)) (by kernel_rfl) (by kernel_rfl) (by kernel_rfl) (door_met os _)) ?_
  intro W base args ds gs before hval0 hW hcnd hsz0 hL _
  have hTH := tabH_of hL
  have hsz : (DataW.weightsEach Tryd.prog (Tryd.f4.params.toList ++ Rows.fnExactDiscantMoveSpec.plain.varTypes Tryd.prog) (ds ++ gs)).all (· ≤ reachBytes) = true := hsz0
  have hval : ∀ (j : Nat) t v, Tryd.f4.params[j]? = some t → args[j]? = some v → Value.okWide Tryd.prog W .any base t v := hval0
  have hW' := hW
  obtain ⟨p, q, hA0, hV, rfl, hfz, hnd⟩ := hW
  have hA : DataW.TrodAll enc Tryd.prog W 0 (fun _ => true) true Tryd.f4.params.toList args.toList ds p := hA0
  rw [Tryd.params4] at hA hval hsz
  obtain ⟨v0, vs0, d0, ds0, p0, q0, hargs, rfl, rfl, h0, r0⟩ := trodAll_cons hA
  obtain ⟨v1, vs1, d1, ds1, p1, q1, rfl, rfl, rfl, h1, r1⟩ := trodAll_cons r0
  obtain ⟨rfl, rfl, rfl⟩ := trodAll_nil r1
  obtain rfl : args = #[v0, v1] := by cases args; simp_all
  obtain ⟨g0, t0, cs0, f0, d0', p0', rfl, _⟩ := trodVars_one hV
  obtain ⟨a0, len0, cap0, rfl⟩ := okWide_slice Tryd.underlying31 (hval 0 31 v0 rfl rfl)
  have k0 := h0
  have lt0 : ∀ x ∈ p0, x.block < W.heap.size := by obtain ⟨m, hm⟩ := k0; exact DataW.trod_lt m _ _ _ hm
  obtain ⟨l0, rfl, hm0, hc0, hr0, hw0⟩ := row_Voice h0
  obtain ⟨a1, rfl, rfl, rfl, w1⟩ := open_int Tryd.underlying3 (hval 1 3 v1 rfl rfl) h1
  clear hA0 hval0 hsz0 hsz
  obtain ⟨k, hk⟩ := PureFnExactDiscantMove.FnExactDiscantMove l0 a1 hm0 w1
  refine (laws_FnExactDiscantMove.calls k _ _ l0 a1 true W hr0 hc0 hTH hk).mono ?_
  rintro e W' ⟨rfl, bel⟩
  exact ⟨_, rfl, _, _, _, [], _, _, hW', trodAll_mk1 (shut_bool Tryd.underlying4 _), (trodAll_cons_mk (Below.trod laidOut (by kernel_rfl) (of_decide_eq_true (by kernel_rfl)) k0 bel lt0) (trodAll_cons_mk (shut_int Tryd.underlying3 w1) trodAll_mk0)), (Go.Proofs.YtgiobmceippanaaDoor.LDoorGM.vars_stay laidOut bel _ (by intro n hn; obtain rfl := List.mem_singleton.1 hn; kernel_rfl) _ _ hV), bel.frame _, fun h => by cases h⟩
theorem over : Rows.fnExactDiscantMoveRow.holds Tryd.pinned (OpenSpec.ofChange Rows.fnExactDiscantMoveSpec) :=
  OpenClaim.holds_of_wide 4 Tryd.f4 rfl rfl rfl rfl rfl rfl rfl ⟨rfl, rfl, rfl, rfl, rfl⟩ rfl rfl rfl rfl rfl (by kernel_rfl) Tryd.func4 (by kernel_rfl)
    (of_decide_eq_true (by kernel_rfl)) (by unfold Func.isWrapper; first | (rw [if_pos (by decide +kernel)]; kernel_rfl) | (rw [if_neg (by decide +kernel)]; exact ⟨rfl, rfl⟩))
    (fun os started H enc _ => lifted os started H enc)
set_option maxRecDepth 100000 in
theorem card_holds : Rows.FnExactDiscantMoveCardSaid :=
  Claim7.holds_tied_plain_at .later [] [.data] true (true, "d3913b5905eaf71ea57efb473850242c23ba666a6ee12667d1b8f408de422c7b") false
    over (fun _ h => by cases h) (by kernel_rfl) (fun _ h => by cases h) fnExactDiscantMove_row_tie rfl ⟨rfl, rfl⟩ (by kernel_rfl) rfl
    (fun f fn hf hfn => by
      obtain rfl : f = 4 := Option.some.inj ((show Tryd.prog.funcNamed "loop.example/neumes/laws.FnExactDiscantMove" = some 4 by kernel_rfl).symm.trans hf) |>.symm
      obtain rfl : fn = Tryd.f4 := (Option.some.inj (Tryd.func4.symm.trans hfn)).symm
      exact ⟨by kernel_rfl, fun j t ht => by
        rw [Tryd.params4] at ht
        have hm : t ∈ [31, 3] := by simpa using Array.mem_of_getElem? ht
        have hall : ([31, 3].all fun u => !Tryd.prog.wantsStandIn u) = true := by kernel_rfl
        exact (show Tryd.prog.wantsStandIn t = false by simpa using List.all_eq_true.1 hall t hm)⟩)
    (by kernel_rfl)
#print axioms card_holds
end Go.Proofs.YtgiobmceippanaaDoor.fnExactDiscantMove
namespace Go.Proofs.YtgiobmceippanaaDoor
/-- The card, under a short name, for the claim. -/
theorem fnExactDiscantMove_holds : Rows.FnExactDiscantMoveCardSaid := fnExactDiscantMove.card_holds
end Go.Proofs.YtgiobmceippanaaDoor
