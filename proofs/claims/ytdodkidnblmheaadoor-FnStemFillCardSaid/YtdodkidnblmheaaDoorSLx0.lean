-- Made by this session's gprint.py out of the translation. Not trusted: Lean checks it.
import Derived.Test.YtdodkidnblmheaaDoorProg
import Derived.Below
import Derived.Deep.Draws
import Derived.Deep.AppendLies
import Derived.Maps.AppendAt
import Derived.OwnWalk
import Derived.Laws.BytesArg
import Derived.Laws.MakeOwn
import Derived.Laws.OwnMore
import Derived.Deep.OwnRows
import Derived.Tactics
import Derived.Lib.ConvBytes
import Derived.Laws.Slices
import Derived.WalkKit
import Derived.KernelRfl
import Derived.RowKit3
import Derived.Deep.LoopGhost
import Derived.Deep.QuietTactic
import Derived.BigQuiet
import Derived.WideLaws
import Derived.Deep.DeepCutAuto
import Derived.Deep.CutBlock
import Derived.Deep.RegionHeld3
import Derived.Laws.Rows
import Derived.Lib.AppendStr
import Derived.ArgAppend
import Derived.Laws.IdiomCopy
import Derived.OrdersHeld
import Derived.Laws.BitsLemmas
import Derived.RowKit
import Derived.WalkSmall
import Derived.OneCell
import Derived.WalkMore
import Derived.Deep.QuietTactic
import Derived.BigQuiet
import Derived.IntWalk
import Derived.Test.YtdodkidnblmheaaDoorWWords
import Derived.Test.YtdodkidnblmheaaDoorWLast
import Derived.Test.YtdodkidnblmheaaDoorWTab
import Derived.Test.YtdodkidnblmheaaDoorWQPut
import Derived.Test.YtdodkidnblmheaaDoorWApart
import Derived.Test.YtdodkidnblmheaaDoorWArr
import Derived.Test.YtdodkidnblmheaaDoorWZeros
import Derived.Test.YtdodkidnblmheaaDoorWFoot
import Derived.Test.YtdodkidnblmheaaDoorWKept
import Derived.Test.YtdodkidnblmheaaDoorWShare
import Derived.Test.YtdodkidnblmheaaDoorWN
import Derived.Test.YtdodkidnblmheaaDoorWFootNe
import Derived.Test.YtdodkidnblmheaaDoorWAt
import Derived.Test.YtdodkidnblmheaaDoorWRepsOne
import Derived.Test.YtdodkidnblmheaaDoorWGuard
import Derived.Test.YtdodkidnblmheaaDoorWNEv
import Derived.Test.YtdodkidnblmheaaDoorWMore
namespace Go.Proofs.YtdodkidnblmheaaDoor.SL
open Go.RowKit Go.Proofs.YtdodkidnblmheaaDoorW.PrintWords Go.Proofs.YtdodkidnblmheaaDoorW.PrintLast Go.Proofs.YtdodkidnblmheaaDoorW.PrintMore
attribute [local go_sem] max2_int min2_int max_two min_two max_three min_three max_four min_four   -- for this text's walks alone
set_option linter.unusedVariables false
set_option linter.unusedSimpArgs false



def errW : Option Int → Value
 | none => .nilIface
 | some c => .iface 0 (.int .i64 c)
theorem errW_none : errW none = .nilIface := rfl
theorem errW_some (c : Int) : errW (some c) = .iface 0 (.int .i64 c) := rfl

/-- A package-level table at block g. -/
def TabAt (g : Nat) (T : List Value) (w : World) : Prop := ∀ (i : Nat) (v : Value), T[i]? = some v → w.cell? ⟨g, i, none⟩ = some v
theorem TabAt.below {g : Nat} {T : List Value} {w w1 : World} (h : TabAt g T w) (hb : Below w.heap.size w w1) : TabAt g T w1 := fun i v hv => by
 have hc := h i v hv
 rw [hb.cell (World.block_lt_of_cell? _ _ hc)]
 exact hc
theorem TabAt.alloc {g : Nat} {T : List Value} {w : World} (h : TabAt g T w) (o : Obj) : TabAt g T (w.alloc o) := h.below (below_alloc (Below.refl _ _) o)
theorem TabAt.drewN {g : Nat} {T : List Value} {w : World} (h : TabAt g T w) (n : Nat) : TabAt g T (w.drewN n) := h.below (pw_below_drewN (Below.refl _ _) n)
theorem TabAt.drew {g : Nat} {T : List Value} {w : World} (h : TabAt g T w) : TabAt g T w.drew := h.below (below_drew1 (Below.refl _ _))
def TabM (w : World) : Prop := ∃ m, w.cell? ⟨2, 0, none⟩ = some (.int .i64 m)
theorem TabM.below {w w1 : World} (h : TabM w) (hb : Below w.heap.size w w1) : TabM w1 := h.imp fun m hm => (by rw [hb.cell (World.block_lt_of_cell? _ _ hm)]; exact hm)

/-! ### steps to a later world (short words for the printed texts) -/
theorem bu {B : Nat} {w W W' : World} (h : Below B w W) (k : Below B w W → Below B w W' := by intro h; repeat (first | (with_reducible first | exact h | apply below_alloc | apply pw_below_drewN | apply below_drew1 | refine below_set ?_ (Aside0.out (by assumption))) | exact h)) : Below B w W' := k h
theorem ru {α : Type} {d : Kd α} {e : Nat} {w w' : World} {base : Nat} {ok : Nat → Prop} {v : Value} {xs : List α} (h : d.R e w base ok v xs) (k : d.R e w base ok v xs → d.R e w' base ok v xs := by intro h; (with_reducible repeat (first | apply Kd.R_alloc | apply Kd.R_drewN | apply Kd.R_drew)); exact h) : d.R e w' base ok v xs := k h
theorem gu {g : Nat} {o : Obj} {w w' : World} (h : w.heap[g]? = some o) (k : w.heap[g]? = some o → w'.heap[g]? = some o := by intro h; (with_reducible repeat (first | refine blk_drewN ?_ _ | refine blk_drew ?_ | refine blk_alloc ?_ _)); exact h) : w'.heap[g]? = some o := k h
theorem sA {α : Type} (l : List α) (i : Nat) (a : α) : l.toArray.setIfInBounds i a = (l.set i a).toArray := by simp
theorem sZ {α : Type} (a b : α) (l : List α) : (a :: l).set 0 b = b :: l := rfl
theorem sS {α : Type} (a b : α) (l : List α) (n : Nat) : (a :: l).set (n + 1) b = a :: l.set n b := rfl
theorem cu {α : Type} {d : Kd α} {w w' : World} {A : Option Addr} {n : Nat} {xs : List α} (h : d.C w A n xs) (k : d.C w A n xs → d.C w' A n xs := by intro h; repeat (first | exact h | (with_reducible refine Kd.C_alloc ?_ _) | (with_reducible refine Kd.C_drewN ?_ _) | (with_reducible refine Kd.C_drew ?_))) : d.C w' A n xs := k h
theorem od {p : Prop} [Decidable p] (h : decide p = true := by first | (with_reducible assumption) | assumption) : p := of_decide_eq_true h
theorem am {p : Prop} (h : p) : Aside0 p := ⟨h⟩
abbrev T := true
abbrev F := false
section
variable {P : Program} {md : Region.Mode} {ops : Array Oper} {Q : Exit → Act → World → Prop} {S : World → Prop} {ds : List Nat}
theorem pz {fuel : Nat} {l : Array Bool} {a : Act} {w : World} (i : Nat) (N : Option Tmp) (l' : Array Bool) (hc : anyB md ops l l' i = true) {oi : Oper} {v : Value} {a' : Act} (hi : ops[i]? = some oi := by rfl) (hN : oi.dst = N := by rfl) (hQ : ∀ c a w, Q (.panic c) (a.put oi.dst v) w → Q (.panic c) a w := by exact (fun _ _ _ h => h)) (hy : Yields P ops oi v a := by (refine Or.inl ⟨by rfl, ?_⟩); intro w'; go_simp; with_reducible rfl) (ha : a.put N v = a' := by simp only [Act.put, sA, sZ, sS, i64_w, i32_w]; rfl) (h : wpAnyLast P md ops Q S ds fuel l' a' w) : wpAnyLast P md ops Q S ds (fuel + 1) l a w := pure_ l' hi hN hc hQ hy ha h
theorem pv {fuel : Nat} {l : Array Bool} {a : Act} {w : World} (i : Nat) (N : Option Tmp) (l' : Array Bool) (hc : anyB md ops l l' i = true) {oi : Oper} {a' : Act} (hi : ops[i]? = some oi := by rfl) (hN : oi.dst = N := by rfl) (hQ : ∀ c a w, Q (.panic c) (a.put oi.dst undef) w → Q (.panic c) a w := by exact (fun _ _ _ h => h)) (hy : Yields P ops oi undef a := by exact (Or.inr ⟨by rfl, rfl⟩)) (ha : a.put N undef = a' := by simp only [Act.put, sA, sZ, sS, i64_w, i32_w]; rfl) (h : wpAnyLast P md ops Q S ds fuel l' a' w) : wpAnyLast P md ops Q S ds (fuel + 1) l a w := pure_ l' hi hN hc hQ hy ha h
theorem tz {fuel : Nat} {l : Array Bool} {a : Act} {w : World} (hS : S w) (i : Nat) (N : Option Tmp) (l' : Array Bool) (hc : takeB md ops ds l l' i = true) {oi : Oper} {v : Value} {a' : Act} (hi : ops[i]? = some oi := by rfl) (hN : oi.dst = N := by rfl) (hQ : ∀ c a w, Q (.panic c) (a.put oi.dst v) w → Q (.panic c) a w := by exact (fun _ _ _ h => h)) (hy : YieldsIf P ops S oi v a := by (refine Or.inl ⟨by rfl, ?_⟩); intro w' s; (repeat (have s0 := s.1; replace s := s.2)); go_simp; with_reducible rfl) (ha : a.put N v = a' := by simp only [Act.put, sA, sZ, sS, i64_w, i32_w]; rfl) (h : wpAnyLast P md ops Q S ds fuel l' a' w) : wpAnyLast P md ops Q S ds (fuel + 1) l a w := take_ l' hi hN hc hQ hy hS ha h
end


theorem info3 : (Tryd.prog.info? 3).map (fun i => (i.zero, i.size, i.bytes)) = some (some (.int .i64 0), 1, 8) := by kernel_rfl
theorem info5 : (Tryd.prog.info? 5).map (fun i => (i.zero, i.size, i.bytes)) = some (some (.int .u8 0), 1, 1) := by kernel_rfl
theorem info9 : (Tryd.prog.info? 9).map (fun i => (i.zero, i.size, i.bytes)) = some (some (.string ⟨#[]⟩), 1, 16) := by kernel_rfl
theorem info24 : (Tryd.prog.info? 24).map (fun i => (i.zero, i.size, i.bytes)) = some (some (.slice none 0 0), 1, 24) := by kernel_rfl
-- the values' own types
def rd_L3 (xs : List (List Int)) (i : Int) : (List Int) := xs.getD i.toNat ([] : List Int)
theorem at_L3 {w : World} {A : Option Addr} {n : Nat} {xs : List (List Int)} (h : Kd.C (Kd.slice 3 (Kd.int .i64)) w A n xs) (i : Int) (h0 : 0 ≤ i) (h1 : i < n) : ∃ ad A0 c0, A = some ad ∧ w.cell? (ad.add i.toNat) = some (.slice A0 (rd_L3 xs i).length c0) ∧ (rd_L3 xs i).length ≤ c0 ∧ (Kd.int .i64).C w A0 (rd_L3 xs i).length (rd_L3 xs i) := by
 obtain ⟨ad, c, e, _, hK, hc0⟩ := Kd.C_get h ([] : List Int) i h0 h1
 have hc : ∀ j u, c[j]? = some u → w.cell? (ad.add (i.toNat * 1 + j)) = some u := hc0
 obtain ⟨A0, c0, rfl, l0, g0⟩ := hK
 exact ⟨ad, A0, c0, e, by have hq := hc 0 _ rfl; rwa [Nat.mul_one, Nat.add_zero] at hq, l0, g0⟩

end Go.Proofs.YtdodkidnblmheaaDoor.SL
