-- Made by this session's gprint.py out of the translation. Not trusted: Lean checks it.
import Derived.Test.YtgiobmceippanaaDoorGXx0
namespace Go.Proofs.YtgiobmceippanaaDoor.GX
open Go.RowKit Go.Proofs.YtgiobmceippanaaDoorW.PrintWords Go.Proofs.YtgiobmceippanaaDoorW.PrintLast Go.Proofs.YtgiobmceippanaaDoorW.PrintMore
attribute [local go_sem] max2_int min2_int max_two min_two max_three min_three max_four min_four   -- for this text's walks alone
set_option linter.unusedVariables false
set_option linter.unusedSimpArgs false

/-- A linked melody. -/
def IsList (w : World) : Option Addr → List S49 → Prop
  | p, [] => p = none
  | p, t :: ts => ∃ (g : Nat) (q : Option Addr), p = some ⟨g, 0, none⟩ ∧ w.heap[g]? = some (.cells #[.int .i64 t.f0, .bool t.f1, .pointer q] 98 (0, 0)) ∧ IsList w q ts
theorem IsList.below {w w1 : World} (hb : Below w.heap.size w w1) : ∀ {ts : List S49} {p : Option Addr}, IsList w p ts → IsList w1 p ts
  | [], _, h => h
  | t :: ts, p, h => by
    obtain ⟨g, q, rfl, hg, hr⟩ := h
    refine ⟨g, q, rfl, ?_, IsList.below hb hr⟩
    have hlt : g < w.heap.size := (Array.getElem?_eq_some_iff.1 hg).1
    rw [hb.block g hlt]
    exact hg
theorem rdLk_at (l : List S49) (i : Nat) (h : i < l.length) : rd_T49 l (i : Int) = l[i] := by
  simp [rd_T49, List.getD_eq_getElem?_getD, h]
set_option maxHeartbeats 2000000 in
set_option maxRecDepth 100000 in
theorem linked_any (A0 : Option Addr) (c0 : Nat) (l0 : List S49) (w : World) (hr0 : Kd.C k49 w A0 l0.length l0) (hc0 : l0.length ≤ c0) (hl : l0.length ≤ 100) :
    Calls Tryd.prog 67 #[.slice A0 l0.length c0] w fun e w' => ∃ p, e = .returned (.pointer p) ∧ IsList w' p l0 ∧ Below w.heap.size w w' := by
  have hu1 := Tryd.underlying98
  have hu2 := Tryd.underlying49
  have HR0 := Aside0.mk hr0
  have HC0 := Aside0.mk hc0
  clear hr0 hc0
  go_enter Tryd.func67, Tryd.ntmps67
  go_wp2_with fail
  go_loopg [3, 4] l0.length (fun kq v3 v4 w' => ∃ (i : Nat) (p : Option Addr), v4 = .int .i64 ((i : Int) - 1) ∧ v3 = .pointer p ∧ Aside0 (i ≤ l0.length ∧ kq = i) ∧ Aside0 (IsList w' p (l0.drop i)) ∧ Aside0 (Below w.heap.size w w'))
  case atStart => exact ⟨l0.length, none, rfl, rfl, ⟨Nat.le_refl _, rfl⟩, ⟨by rw [List.drop_eq_nil_of_le (Nat.le_refl _)]; rfl⟩, ⟨Below.refl _ _⟩⟩
  case round =>
    obtain ⟨i, p, rfl, rfl, HI, HL, HB⟩ := hrel
    by_cases h0 : i = 0
    · subst h0
      go_wp2
      go_ret
      exact ⟨p, rfl, HL.out, HB.out⟩
    · obtain ⟨j, rfl⟩ : ∃ j, i = j + 1 := ⟨i - 1, by omega⟩
      have hlt : j < l0.length := by have := HI.out.1; omega
      have ej : ((j + 1 : Nat) : Int) - 1 = (j : Int) := by omega
      rw [ej]
      obtain ⟨ad, e1, hx0, hx1⟩ := at_T49 (Kd.C_below HR0.out HB.out) (j : Int) (by omega) (by omega)
      cases e1
      simp only [Int.toNat_natCast] at hx0 hx1
      rw [rdLk_at l0 j hlt] at hx0 hx1
      go_wp2
      go_roundg j
      case measure => have := HI.out; omega
      case rel =>
        refine ⟨j, some ⟨wr.heap.size, 0, none⟩, rfl, rfl, ⟨by have := HI.out.1; omega, rfl⟩, ⟨?_⟩, ⟨below_alloc HB.out _⟩⟩
        rw [List.drop_eq_getElem_cons hlt]
        exact ⟨wr.heap.size, p, rfl, blk_new _ _, IsList.below (below_alloc (Below.refl _ _) _) HL.out⟩


-- INNER impl_linked
end Go.Proofs.YtgiobmceippanaaDoor.GX
