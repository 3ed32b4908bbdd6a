/- FnExactPartSlow: for every list of voices with at most 1048576 of them the program's PartSlow answers as the reference's does, leaves its argument alone, and its answer lies apart from it (longer lists the statement lets pass). No condition beyond the statement's own. -/
import Derived.Test.YtdddnfbedckgkaaRows
import Derived.Test.YtdddnfbedckgkaaGSx10
import Derived.Test.YtdddnfbedckgkaaPureFnExactPartSlow
import Derived.WalkKit
import Derived.ProofKit
import Derived.OpenShut
import Derived.ShutString
import Derived.ChangeOld
import Derived.Below
import Derived.SizedLaws
import Derived.Lib.SmallJoins
import Derived.Deep.Slices
import Derived.Test.YtdddnfbedckgkaaWSized
namespace Go.Proofs.Ytdddnfbedckgkaa.fnExactPartSlow
open Go.ChangeShapes Go.WideShapes Go.ChangeAt Go.RowKit Go.Proofs.Ytdddnfbedckgkaa.GS Go.Proofs.YtdddnfbedckgkaaW.PrintWords Go.Proofs.YtdddnfbedckgkaaW.PrintLast
open Go.ChangeMaps (open_string shut_string)
set_option linter.unusedVariables false
set_option linter.unusedSimpArgs false
theorem own : ownKnob Try.prog.godebug = none := by kernel_rfl
theorem laidOut : laidOutB Try.prog = true := by kernel_rfl
def IsRow (k : IntKind) (w : World) (a : Option Addr) (len cap : Nat) (zs : List Int) : Prop :=
  (a = none ∧ len = 0 ∧ cap = 0 ∧ zs = []) ∨
  ∃ x, a = some x ∧ len ≤ cap ∧ cap ≤ maxLen ∧ zs.length = cap ∧ (∀ i, i < zs.length → w.cell? (x.add i) = some (.int k (zs.getD i 0))) ∧ ∀ n ∈ zs, (Lit.int k n).wf = true
theorem c_Tone : Try.prog.cellsOf 69 = 2 := by kernel_rfl
theorem two_of {α : Type} {l : List α} (h : l.length = 2) : ∃ a b, l = [a, b] := by
  match l, h with
  | [a, b], _ => exact ⟨a, b, rfl⟩
theorem three_of {α : Type} {l : List α} (h : l.length = 3) : ∃ a b c, l = [a, b, c] := by
  match l, h with
  | [a, b, c], _ => exact ⟨a, b, c, rfl⟩
theorem c_int : Try.prog.cellsOf 3 = 1 := by kernel_rfl
theorem c_bool : Try.prog.cellsOf 4 = 1 := by kernel_rfl
theorem open_Tone {H : Type} {enc : TypeId × Value → H} {W : World} {base : Nat} {spare : Nat → Bool} {held : Bool} {fuel : Nat} {cs : List Value} {x : DataW H × List MemPlace} (h : DataW.trod enc Try.prog W base spare held fuel 69 cs = some x) :
    ∃ (a : Int) (b : Bool), cs = [.int .i64 a, .bool b] ∧ (Lit.int .i64 a).wf = true := by
  obtain ⟨xs, n, _, _, hlen, hxl, hg⟩ := DataW.trod_struct Try.underlying69 h
  rw [c_Tone] at hlen
  have h0 := hg 0 _ rfl
  have h1 := hg 1 _ rfl
  obtain ⟨c0, c1, rfl⟩ := two_of hlen
  obtain ⟨y0, y1, rfl⟩ := two_of hxl
  simp [c_int, c_bool] at h0 h1
  obtain ⟨a, e0, _, wa⟩ := DataW.trod_int Try.underlying3 h0
  obtain ⟨b, e1, _⟩ := DataW.trod_bool Try.underlying4 h1
  simp at e0 e1
  subst e0 e1
  exact ⟨a, b, rfl, wa⟩
theorem c_Voice : Try.prog.cellsOf 71 = 3 := by kernel_rfl
theorem open_Voice {H : Type} {enc : TypeId × Value → H} {W : World} {base : Nat} {spare : Nat → Bool} {held : Bool} {fuel : Nat} {cs : List Value} {x : DataW H × List MemPlace} (h : DataW.trod enc Try.prog W base spare held fuel 71 cs = some x) :
    ∃ (a : Int) (b : Bool) (c : Int), cs = [.int .i64 a, .bool b, .int .i64 c] ∧ (Lit.int .i64 a).wf = true ∧ (Lit.int .i64 c).wf = true := by
  obtain ⟨xs, n, _, _, hlen, hxl, hg⟩ := DataW.trod_struct Try.underlying71 h
  rw [c_Voice] at hlen
  have h0 := hg 0 _ rfl
  have h1 := hg 1 _ rfl
  obtain ⟨c0, c1, c2, rfl⟩ := three_of hlen
  obtain ⟨y0, y1, rfl⟩ := two_of hxl
  simp [c_int, c_Tone] at h0 h1
  obtain ⟨a, b, e0, wa⟩ := open_Tone h0
  obtain ⟨c, e1, _, wc⟩ := DataW.trod_int Try.underlying3 h1
  simp at e0 e1
  obtain ⟨rfl, rfl⟩ := e0
  subst e1
  exact ⟨a, b, c, rfl, wa, wc⟩
def WF_Voice (x : S71) : Prop := (Lit.int .i64 x.f0.f0).wf = true ∧ (Lit.int .i64 x.f1).wf = true
instance : Inhabited S71 := ⟨z71⟩
theorem row_Voice {H : Type} {enc : TypeId × Value → H} {W : World} {base : Nat} {spare : Nat → Bool} {held : Bool} {a : Option Addr} {len cap : Nat} {d : DataW H} {ps : List MemPlace} (h : DataW.Trod enc Try.prog W base spare held 39 (.slice a len cap) d ps) :
    ∃ l : List S71, len = l.length ∧ l.length ≤ maxLen ∧ l.length ≤ cap ∧ Kd.C k71 W a l.length l ∧ ∀ x ∈ l, WF_Voice x := by
  obtain ⟨fuel, hf⟩ := h
  rcases Go.Deep.open_slice Try.underlying39 hf with ⟨hcs, _⟩ | ⟨ad, len', cap', m, n, D, Pl, hcs, _, hl, hm, hmm, _, hel⟩
  · simp [Value.cells] at hcs
    obtain ⟨rfl, rfl, rfl⟩ := hcs
    exact ⟨[], rfl, by simp, by simp, Kd.C_nil _ _, by simp⟩
  · simp [Value.cells] at hcs
    obtain ⟨rfl, rfl, rfl⟩ := hcs
    have hlm : len ≤ m := by rw [hmm]; split; exact hl; exact Nat.le_refl _
    have key : ∀ i, i < len → ∃ s : S71, WF_Voice s ∧ ∀ j u, ([.int .i64 (s).f0.f0, .bool (s).f0.f1, .int .i64 (s).f1] : List Value)[j]? = some u → W.cell? (ad.add (i * 3 + j)) = some u := by
      intro i hi
      obtain ⟨cs', hc, ht⟩ := hel i (Nat.lt_of_lt_of_le hi hlm)
      obtain ⟨a, b, c, rfl, w1, w2⟩ := open_Voice ht
      obtain ⟨_, hcl, hat⟩ := World.cells?_some hc
      rw [c_Voice] at hat
      refine ⟨⟨⟨a, b⟩, c⟩, ⟨w1, w2⟩, fun j u hj => ?_⟩
      have hjn : j < 3 := (List.getElem?_eq_some_iff.1 hj).1
      have := hat j hjn
      rw [Go.Deep.add_add] at this
      rw [this]
      exact hj
    obtain ⟨f, hf⟩ := Go.Deep.choose_lt key
    refine ⟨(List.range len).map f, by simp, by simpa using Nat.le_trans hl hm, by simpa using hl, ⟨by simp, ?_, fun _ => ⟨ad, rfl, fun j p hj => ?_⟩⟩, ?_⟩
    · have := Nat.le_trans hl hm
      unfold maxLen at this
      simpa using this
    · rw [List.getElem?_map] at hj
      by_cases hjl : j < len
      · rw [List.getElem?_range hjl] at hj
        simp at hj
        subst hj
        exact ⟨_, rfl, k71_mk W (f j), (hf j hjl).2⟩
      · rw [List.getElem?_eq_none (by simpa using hjl)] at hj
        simp at hj
    · intro x hx
      obtain ⟨j, hj, rfl⟩ := List.mem_map.1 hx
      exact (hf j (List.mem_range.1 hj)).1
set_option maxRecDepth 100000 in
theorem lifted (os : Os) (started : os.Started) (H : Type) (enc : TypeId × Value → H) :
    ReturnsInHanded {} Try.checked os 12 .any (Rows.fnExactPartSlowSpec.pre6 enc Try.prog Try.f12 Rows.fnExactPartSlowRow.domain false) (Rows.fnExactPartSlowSpec.post enc Try.prog Try.f12 false true false false) := by
  refine returnsInHanded_of_change_sized (C := Try.checked) own started (by kernel_rfl) Try.func12
    (ChangeSpec.witness6 (enc := enc) (C := Try.checked) false ⟨#[], #[.slice none 0 0], []⟩ 8 (by kernel_rfl) (by kernel_rfl) (by kernel_rfl) (by kernel_rfl)) ?_
  intro W base args ds gs before hval0 hW hcnd hsz0 _
  have hsz : (DataW.weightsEach Try.prog (Try.f12.params.toList ++ Rows.fnExactPartSlowSpec.plain.varTypes Try.prog) (ds ++ gs)).all (· ≤ reachBytes) = true := hsz0
  have hval : ∀ (j : Nat) t v, Try.f12.params[j]? = some t → args[j]? = some v → Value.okWide Try.prog W .any base t v := hval0
  have hW' := hW
  obtain ⟨p, q, hA0, hV, rfl, hfz, hnd⟩ := hW
  have hA : DataW.TrodAll enc Try.prog W 0 (fun _ => true) true Try.f12.params.toList args.toList ds p := hA0
  rw [Try.params12] at hA hval hsz
  obtain ⟨v0, vs0, d0, ds0, p0, q0, hargs, rfl, rfl, h0, r0⟩ := trodAll_cons hA
  obtain ⟨rfl, rfl, rfl⟩ := trodAll_nil r0
  obtain rfl : args = #[v0] := by cases args; simp_all
  obtain ⟨rfl, rfl⟩ := trodVars_none hV
  obtain ⟨a0, len0, cap0, rfl⟩ := okWide_slice Try.underlying39 (hval 0 39 v0 rfl rfl)
  have k0 := h0
  have lt0 : ∀ x ∈ p0, x.block < W.heap.size := by obtain ⟨m, hm⟩ := k0; exact DataW.trod_lt m _ _ _ hm
  obtain ⟨l0, rfl, hm0, hc0, hr0, hw0⟩ := row_Voice h0
  clear hA0 hval0 hsz0 hsz
  obtain ⟨k, hk⟩ := PureFnExactPartSlow.FnExactPartSlow l0 hm0
  refine (laws_FnExactPartSlow.calls k _ _ l0 true W hr0 hc0  hk).mono ?_
  rintro e W' ⟨rfl, bel⟩
  exact ⟨_, rfl, _, _, _, [], _, [], hW', trodAll_mk1 (shut_bool Try.underlying4 _), (trodAll_cons_mk (Below.trod laidOut (by kernel_rfl) (of_decide_eq_true (by kernel_rfl)) k0 bel lt0) trodAll_mk0), rfl, bel.frame _, fun h => by cases h⟩
theorem over : Rows.fnExactPartSlowRow.holds Try.pinned (OpenSpec.ofChange Rows.fnExactPartSlowSpec) :=
  OpenClaim.holds_of_wide 12 Try.f12 rfl rfl rfl rfl rfl rfl rfl ⟨rfl, rfl, rfl, rfl, rfl⟩ rfl rfl rfl rfl rfl (by kernel_rfl) Try.func12 (by kernel_rfl)
    (of_decide_eq_true (by kernel_rfl)) (by unfold Func.isWrapper; first | (rw [if_pos (by decide +kernel)]; kernel_rfl) | (rw [if_neg (by decide +kernel)]; exact ⟨rfl, rfl⟩))
    (fun os started H enc _ => lifted os started H enc)
theorem proved : Rows.FnExactPartSlowSaid := over
#print axioms proved
end Go.Proofs.Ytdddnfbedckgkaa.fnExactPartSlow
namespace Go.Proofs.Ytdddnfbedckgkaa
/-- The row, under a short name, for the claim. -/
theorem fnExactPartSlow_holds : Rows.FnExactPartSlowSaid := fnExactPartSlow.proved
end Go.Proofs.Ytdddnfbedckgkaa
