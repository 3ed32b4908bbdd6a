-- Made by this session's gprint.py out of the translation. Not trusted: Lean checks it.
import Derived.Test.YtjefoedojglhpaaDoorProg
import Derived.Below
import Derived.Deep.Draws
import Derived.Deep.AppendLies
import Derived.Maps.AppendAt
import Derived.OwnWalk
import Derived.Laws.BytesArg
import Derived.Laws.MakeOwn
import Derived.Laws.OwnMore
import Derived.Deep.OwnRows
import Derived.Tactics
import Derived.Lib.ConvBytes
import Derived.Laws.Slices
import Derived.WalkKit
import Derived.KernelRfl
import Derived.RowKit3
import Derived.Deep.LoopGhost
import Derived.Deep.QuietTactic
import Derived.BigQuiet
import Derived.WideLaws
import Derived.Deep.DeepCutAuto
import Derived.Deep.CutBlock
import Derived.Deep.RegionHeld3
import Derived.Laws.Rows
import Derived.Lib.AppendStr
import Derived.ArgAppend
import Derived.Laws.IdiomCopy
import Derived.OrdersHeld
import Derived.Laws.BitsLemmas
import Derived.RowKit
import Derived.WalkSmall
import Derived.OneCell
import Derived.WalkMore
import Derived.Deep.QuietTactic
import Derived.BigQuiet
import Derived.IntWalk
import Derived.Test.YtjefoedojglhpaaDoorWWords
import Derived.Test.YtjefoedojglhpaaDoorWLast
import Derived.Test.YtjefoedojglhpaaDoorWTab
import Derived.Test.YtjefoedojglhpaaDoorWFour
import Derived.Test.YtjefoedojglhpaaDoorWQPut
import Derived.Test.YtjefoedojglhpaaDoorWApart
import Derived.Test.YtjefoedojglhpaaDoorWArr
import Derived.Test.YtjefoedojglhpaaDoorWZeros
import Derived.Test.YtjefoedojglhpaaDoorWFoot
import Derived.Test.YtjefoedojglhpaaDoorWKept
import Derived.Test.YtjefoedojglhpaaDoorWShare
import Derived.Test.YtjefoedojglhpaaDoorWN
import Derived.Test.YtjefoedojglhpaaDoorWFootNe
import Derived.Test.YtjefoedojglhpaaDoorWAt
import Derived.Test.YtjefoedojglhpaaDoorWEqStruct
import Derived.Test.YtjefoedojglhpaaDoorWRepsOne
import Derived.Test.YtjefoedojglhpaaDoorWInv
import Derived.Test.YtjefoedojglhpaaDoorWInvWords
import Derived.Test.YtjefoedojglhpaaDoorWGuard
import Derived.Test.YtjefoedojglhpaaDoorWNEv
import Derived.Test.YtjefoedojglhpaaDoorWMore
namespace Go.Proofs.YtjefoedojglhpaaDoor.G
open Go.RowKit Go.Proofs.YtjefoedojglhpaaDoorW.PrintWords Go.Proofs.YtjefoedojglhpaaDoorW.PrintLast Go.Proofs.YtjefoedojglhpaaDoorW.PrintMore
attribute [local go_sem] max2_int min2_int max_two min_two max_three min_three max_four min_four   -- for this text's walks alone
set_option linter.unusedVariables false
set_option linter.unusedSimpArgs false



def errW : Option Int → Value
  | none => .nilIface
  | some c => .iface 0 (.int .i64 c)
theorem errW_none : errW none = .nilIface := rfl
theorem errW_some (c : Int) : errW (some c) = .iface 0 (.int .i64 c) := rfl

/-- A package-level table at block g. -/
def TabAt (g : Nat) (T : List Value) (w : World) : Prop := ∀ (i : Nat) (v : Value), T[i]? = some v → w.cell? ⟨g, i, none⟩ = some v
theorem TabAt.below {g : Nat} {T : List Value} {w w1 : World} (h : TabAt g T w) (hb : Below w.heap.size w w1) : TabAt g T w1 := fun i v hv => by
  have hc := h i v hv
  rw [hb.cell (World.block_lt_of_cell? _ _ hc)]
  exact hc
theorem TabAt.alloc {g : Nat} {T : List Value} {w : World} (h : TabAt g T w) (o : Obj) : TabAt g T (w.alloc o) := h.below (below_alloc (Below.refl _ _) o)
theorem TabAt.drewN {g : Nat} {T : List Value} {w : World} (h : TabAt g T w) (n : Nat) : TabAt g T (w.drewN n) := h.below (pw_below_drewN (Below.refl _ _) n)
theorem TabAt.drew {g : Nat} {T : List Value} {w : World} (h : TabAt g T w) : TabAt g T w.drew := h.below (below_drew1 (Below.refl _ _))
def TabL (w : World) : Prop := TabAt 1 [.string ⟨#[71]⟩, .string ⟨#[65]⟩, .string ⟨#[66]⟩, .string ⟨#[67]⟩, .string ⟨#[68]⟩, .string ⟨#[69]⟩, .string ⟨#[70]⟩] w
def TabH (w : World) : Prop := TabAt 2 [.int .i64 0, .int .i64 2, .int .i64 4, .int .i64 5, .int .i64 7, .int .i64 9, .int .i64 10] w
def TabS (w : World) : Prop := TabAt 0 [.string ⟨#[117, 116]⟩, .string ⟨#[114, 101]⟩, .string ⟨#[109, 105]⟩, .string ⟨#[102, 97]⟩, .string ⟨#[115, 111, 108]⟩, .string ⟨#[108, 97]⟩] w


theorem info3 : (Tryd.prog.info? 3).map (fun i => (i.zero, i.size, i.bytes)) = some (some (.int .i64 0), 1, 8) := by kernel_rfl
theorem info5 : (Tryd.prog.info? 5).map (fun i => (i.zero, i.size, i.bytes)) = some (some (.int .u8 0), 1, 1) := by kernel_rfl
theorem info9 : (Tryd.prog.info? 9).map (fun i => (i.zero, i.size, i.bytes)) = some (some (.string ⟨#[]⟩), 1, 16) := by kernel_rfl
theorem info25 : (Tryd.prog.info? 25).map (fun i => (i.zero, i.size, i.bytes)) = some (some (.agg #[(.int .i64 0), (.bool false)]), 2, 16) := by kernel_rfl
-- the values' own types
/-! #### struct type 25 -/
structure S25 where
  f0 : Int
  f1 : Bool
def z25 : S25 := ⟨(0 : Int), false⟩
def k25 : Kd S25 := Kd.iso (Kd.pair (Kd.int .i64) Kd.bool) (fun x : S25 => (x.f0, x.f1))
theorem k25_open {w : World} {x : S25} {cs : List Value} (h : k25.K w x cs) : cs = [.int .i64 x.f0, .bool x.f1] := by
  obtain ⟨_, _, rfl, rfl, rfl⟩ := h
  exact rfl
theorem k25_openM {w : World} {base : Nat} {ok : Nat → Prop} {x : S25} {cs : List Value} (h : k25.M w base ok x cs) : cs = [.int .i64 x.f0, .bool x.f1] := by
  obtain ⟨_, _, rfl, rfl, rfl⟩ := h
  exact rfl
theorem k25_mk (w : World) (x : S25)  : k25.K w x [.int .i64 x.f0, .bool x.f1] := ⟨[.int .i64 x.f0], [.bool x.f1], rfl, rfl, rfl⟩
theorem k25_mkM (w : World) (base : Nat) (ok : Nat → Prop) (x : S25)  : k25.M w base ok x [.int .i64 x.f0, .bool x.f1] := ⟨[.int .i64 x.f0], [.bool x.f1], rfl, rfl, rfl⟩
def rd_T25 (xs : List S25) (i : Int) : S25 := xs.getD i.toNat z25
theorem at_T25 {w : World} {A : Option Addr} {n : Nat} {xs : List S25} (h : Kd.C k25 w A n xs) (i : Int) (h0 : 0 ≤ i) (h1 : i < n) : ∃ ad , A = some ad ∧ w.cell? (ad.add (i.toNat * 2)) = some (.int .i64 (rd_T25 xs i).f0) ∧ w.cell? ⟨(ad.add (i.toNat * 2)).block, (ad.add (i.toNat * 2)).off + 1, none⟩ = some (.bool (rd_T25 xs i).f1) := by
  obtain ⟨ad, c, e, _, hK, hc0⟩ := Kd.C_get h z25 i h0 h1
  have hc : ∀ j u, c[j]? = some u → w.cell? (ad.add (i.toNat * 2 + j)) = some u := hc0
  obtain rfl := k25_open hK
  exact ⟨ad, e, hc 0 _ rfl, by rw [← add_field _ _ 1 (by omega)]; exact hc 1 _ rfl⟩

/-! #### struct type 30 -/
structure S30 where
  f0 : Int
  f1 : Bool
def z30 : S30 := ⟨(0 : Int), false⟩
def k30 : Kd S30 := Kd.iso (Kd.pair (Kd.int .i64) Kd.bool) (fun x : S30 => (x.f0, x.f1))
theorem k30_open {w : World} {x : S30} {cs : List Value} (h : k30.K w x cs) : cs = [.int .i64 x.f0, .bool x.f1] := by
  obtain ⟨_, _, rfl, rfl, rfl⟩ := h
  exact rfl
theorem k30_openM {w : World} {base : Nat} {ok : Nat → Prop} {x : S30} {cs : List Value} (h : k30.M w base ok x cs) : cs = [.int .i64 x.f0, .bool x.f1] := by
  obtain ⟨_, _, rfl, rfl, rfl⟩ := h
  exact rfl
theorem k30_mk (w : World) (x : S30)  : k30.K w x [.int .i64 x.f0, .bool x.f1] := ⟨[.int .i64 x.f0], [.bool x.f1], rfl, rfl, rfl⟩
theorem k30_mkM (w : World) (base : Nat) (ok : Nat → Prop) (x : S30)  : k30.M w base ok x [.int .i64 x.f0, .bool x.f1] := ⟨[.int .i64 x.f0], [.bool x.f1], rfl, rfl, rfl⟩
def rd_T30 (xs : List S30) (i : Int) : S30 := xs.getD i.toNat z30
theorem at_T30 {w : World} {A : Option Addr} {n : Nat} {xs : List S30} (h : Kd.C k30 w A n xs) (i : Int) (h0 : 0 ≤ i) (h1 : i < n) : ∃ ad , A = some ad ∧ w.cell? (ad.add (i.toNat * 2)) = some (.int .i64 (rd_T30 xs i).f0) ∧ w.cell? ⟨(ad.add (i.toNat * 2)).block, (ad.add (i.toNat * 2)).off + 1, none⟩ = some (.bool (rd_T30 xs i).f1) := by
  obtain ⟨ad, c, e, _, hK, hc0⟩ := Kd.C_get h z30 i h0 h1
  have hc : ∀ j u, c[j]? = some u → w.cell? (ad.add (i.toNat * 2 + j)) = some u := hc0
  obtain rfl := k30_open hK
  exact ⟨ad, e, hc 0 _ rfl, by rw [← add_field _ _ 1 (by omega)]; exact hc 1 _ rfl⟩

end Go.Proofs.YtjefoedojglhpaaDoor.G
