-- Made by this session's gprint.py out of the translation. Not trusted: Lean checks it.
import Derived.Test.YtdddnfbedckgkaaGSx0
import Derived.Test.YtdddnfbedckgkaaGSx7
namespace Go.Proofs.Ytdddnfbedckgkaa.GS
open Go.RowKit Go.Proofs.YtdddnfbedckgkaaW.PrintWords Go.Proofs.YtdddnfbedckgkaaW.PrintLast Go.Proofs.YtdddnfbedckgkaaW.PrintMore
attribute [local go_sem] max2_int min2_int max_two min_two max_three min_three max_four min_four   -- for this text's walks alone
set_option linter.unusedVariables false
set_option linter.unusedSimpArgs false

/-! ### the ring of beats, by hand -/
def rp (B : Nat → Nat) (i n : Nat) : Value := if n = 0 then .pointer none else .pointer (some ⟨B i, 0, none⟩)
abbrev nodeOf (t : S48) (x : Nat) : Obj := .cells #[.int .i64 t.f0, .bool t.f1, .pointer (some ⟨x, 0, none⟩)] 89
/-- The ring at block g: its beats lie in the blocks B 0, B 1, .., each leading to the next one, the last one to the first. -/
structure IsRing (W0 w : World) (g : Nat) (B : Nat → Nat) (ts : List S48) : Prop where
  below : Below W0.heap.size W0 w
  hg : W0.heap.size ≤ g
  ring : w.heap[g]? = some (.cells #[rp B 0 ts.length, rp B (ts.length - 1) ts.length, .int .i64 (ts.length : Int)] 79 (0, 0))
  node : ∀ i (h : i < ts.length), w.heap[B i]? = some (nodeOf ts[i] (B (if i + 1 = ts.length then 0 else i + 1)))
  base : ∀ i, i < ts.length → W0.heap.size ≤ B i
  inj : ∀ i j, i < ts.length → j < ts.length → B i = B j → i = j
theorem IsRing.mono {W0 w w1 : World} {g : Nat} {B : Nat → Nat} {ts : List S48} (h : IsRing W0 w g B ts) (hb : Below w.heap.size w w1) : IsRing W0 w1 g B ts :=
  ⟨below_step h.below hb, h.hg, blk_below h.ring hb, fun i hi => blk_below (h.node i hi) hb, h.base, h.inj⟩
theorem IsRing.empty0 {W0 w : World} (hb : Below W0.heap.size W0 w) : IsRing W0 (w.alloc (.cells #[.pointer none, .pointer none, .int .i64 0] 79)) w.heap.size (fun _ => 0) [] :=
  ⟨below_alloc hb _, hb.size, blk_new w _, fun i hi => absurd hi (Nat.not_lt_zero _), fun i hi => absurd hi (Nat.not_lt_zero _), fun i j hi => absurd hi (Nat.not_lt_zero _)⟩
theorem IsRing.first {W0 w : World} {g : Nat} {B : Nat → Nat} (h : IsRing W0 w g B []) (t : S48) (X : Obj) :
    IsRing W0 (((((w.setCell ⟨g, 0, none⟩ (.pointer (some ⟨w.heap.size + 1, 0, none⟩))).setCell ⟨g, 1, none⟩ (.pointer (some ⟨w.heap.size + 1, 0, none⟩))).setCell ⟨g, 2, none⟩ (.int .i64 1)).alloc X).alloc (nodeOf t (w.heap.size + 1))) g (fun _ => w.heap.size + 1) [t] := by
  have hr := h.ring
  have hs : ∀ (v1 v2 v3 : Value) (p1 p2 p3 : Addr), (((w.setCell p1 v1).setCell p2 v2).setCell p3 v3).heap.size = w.heap.size := fun _ _ _ _ _ _ => by simp [World.setCell]
  refine ⟨?_, h.hg, ?_, ?_, ?_, ?_⟩
  · exact below_alloc (below_alloc (below_set (below_set (below_set h.below h.hg) h.hg) h.hg) _) _
  · refine blk_alloc (blk_alloc ?_ _) _
    exact blk_put (blk_put (blk_put hr 0 _ rfl) 1 _ rfl) 2 _ rfl
  · intro i hi
    have hi0 : i = 0 := by simpa using hi
    subst hi0
    have := blk_new ((((w.setCell ⟨g, 0, none⟩ (.pointer (some ⟨w.heap.size + 1, 0, none⟩))).setCell ⟨g, 1, none⟩ (.pointer (some ⟨w.heap.size + 1, 0, none⟩))).setCell ⟨g, 2, none⟩ (.int .i64 1)).alloc X) (nodeOf t (w.heap.size + 1))
    rw [show ((((w.setCell ⟨g, 0, none⟩ (.pointer (some ⟨w.heap.size + 1, 0, none⟩))).setCell ⟨g, 1, none⟩ (.pointer (some ⟨w.heap.size + 1, 0, none⟩))).setCell ⟨g, 2, none⟩ (.int .i64 1)).alloc X).heap.size = w.heap.size + 1 by simp [World.setCell, World.alloc]] at this
    simpa using this
  · intro i hi
    have := h.below.size
    omega
  · intro i j hi hj _
    simp at hi hj
    omega
theorem IsRing.more {W0 w : World} {g : Nat} {B : Nat → Nat} {ts : List S48} (h : IsRing W0 w g B ts) (hn : 0 < ts.length) (t : S48) (X : Obj) :
    IsRing W0 (((((w.setCell ⟨B (ts.length - 1), 2, none⟩ (.pointer (some ⟨w.heap.size + 1, 0, none⟩))).setCell ⟨g, 1, none⟩ (.pointer (some ⟨w.heap.size + 1, 0, none⟩))).setCell ⟨g, 2, none⟩ (.int .i64 ((ts.length : Int) + 1))).alloc X).alloc (nodeOf t (B 0))) g (fun i => if i = ts.length then w.heap.size + 1 else B i) (ts ++ [t]) := by
  have hr := h.ring
  have hB : ∀ i, i < ts.length → B i < w.heap.size := fun i hi => blk_lt (h.node i hi)
  have hgB : ∀ i, i < ts.length → g ≠ B i := fun i hi => blk_ne hr (h.node i hi) (by decide)
  have hl : ts.length - 1 < ts.length := by omega
  have hz : (((w.setCell ⟨B (ts.length - 1), 2, none⟩ (.pointer (some ⟨w.heap.size + 1, 0, none⟩))).setCell ⟨g, 1, none⟩ (.pointer (some ⟨w.heap.size + 1, 0, none⟩))).setCell ⟨g, 2, none⟩ (.int .i64 ((ts.length : Int) + 1))).heap.size = w.heap.size := by simp [World.setCell]
  have e0 : ¬ (ts.length = 0) := by omega
  refine ⟨?_, h.hg, ?_, ?_, ?_, ?_⟩
  · exact below_alloc (below_alloc (below_set (below_set (below_set h.below (h.base _ hl)) h.hg) h.hg) _) _
  · refine blk_alloc (blk_alloc ?_ _) _
    have h1 := blk_far (p := ⟨B (ts.length - 1), 2, none⟩) hr (hgB _ hl) (.pointer (some ⟨w.heap.size + 1, 0, none⟩))
    have h3 := blk_put (blk_put h1 1 (.pointer (some ⟨w.heap.size + 1, 0, none⟩)) rfl) 2 (.int .i64 ((ts.length : Int) + 1)) rfl
    rw [h3]
    simp [rp, e0, Array.setIfInBounds]
    intro h
    omega
  · intro i hi
    rw [List.length_append, List.length_singleton] at hi
    by_cases hit : i = ts.length
    · subst hit
      have := blk_new ((((w.setCell ⟨B (ts.length - 1), 2, none⟩ (.pointer (some ⟨w.heap.size + 1, 0, none⟩))).setCell ⟨g, 1, none⟩ (.pointer (some ⟨w.heap.size + 1, 0, none⟩))).setCell ⟨g, 2, none⟩ (.int .i64 ((ts.length : Int) + 1))).alloc X) (nodeOf t (B 0))
      rw [show ((((w.setCell ⟨B (ts.length - 1), 2, none⟩ (.pointer (some ⟨w.heap.size + 1, 0, none⟩))).setCell ⟨g, 1, none⟩ (.pointer (some ⟨w.heap.size + 1, 0, none⟩))).setCell ⟨g, 2, none⟩ (.int .i64 ((ts.length : Int) + 1))).alloc X).heap.size = w.heap.size + 1 by simp [World.setCell, World.alloc]] at this
      have e2 : ¬ (0 = ts.length) := fun e => e0 e.symm
      simpa [e2] using this
    · have hil : i < ts.length := by omega
      refine blk_alloc (blk_alloc ?_ _) _
      have hnd := h.node i hil
      have e3 : (ts ++ [t])[i]'(by simp; omega) = ts[i] := List.getElem_append_left hil
      have e4 : (if i + 1 = (ts ++ [t]).length then 0 else i + 1) = i + 1 := if_neg (by simp; omega)
      rw [e3, if_neg hit, e4]
      have hgi : B i ≠ g := fun e => hgB _ hil e.symm
      by_cases hlast : i = ts.length - 1
      · subst hlast
        rw [if_pos (by omega)]
        exact blk_far (p := ⟨g, 2, none⟩) (blk_far (p := ⟨g, 1, none⟩) (blk_put hnd 2 _ rfl) hgi _) hgi _
      · rw [if_neg (by omega)] at hnd
        rw [if_neg (by omega)]
        exact blk_far (p := ⟨g, 2, none⟩) (blk_far (p := ⟨g, 1, none⟩) (blk_far (p := ⟨B (ts.length - 1), 2, none⟩) hnd (fun e => hlast (h.inj _ _ hil hl e)) _) hgi _) hgi _
  · intro i hi
    rw [List.length_append, List.length_singleton] at hi
    by_cases hit : i = ts.length
    · rw [if_pos hit]
      have := h.below.size
      omega
    · rw [if_neg hit]
      exact h.base i (by omega)
  · intro i j hi hj e
    rw [List.length_append, List.length_singleton] at hi hj
    by_cases hit : i = ts.length <;> by_cases hjt : j = ts.length
    · omega
    · rw [if_pos hit, if_neg hjt] at e
      have := hB j (by omega)
      omega
    · rw [if_neg hit, if_pos hjt] at e
      have := hB i (by omega)
      omega
    · rw [if_neg hit, if_neg hjt] at e
      exact h.inj i j (by omega) (by omega) e
set_option maxHeartbeats 1000000 in
set_option maxRecDepth 100000 in
theorem add_first (g : Nat) (t : S48) (w : World) (h0 : w.heap[g]? = some (.cells #[.pointer none, .pointer none, .int .i64 0] 79 (0, 0))) :
    Calls Try.prog 68 #[.pointer (some ⟨g, 0, none⟩), .agg #[.int .i64 t.f0, .bool t.f1]] w fun e w' => e = .returned (.tuple #[]) ∧ w' = (((((w.setCell ⟨g, 0, none⟩ (.pointer (some ⟨w.heap.size + 1, 0, none⟩))).setCell ⟨g, 1, none⟩ (.pointer (some ⟨w.heap.size + 1, 0, none⟩))).setCell ⟨g, 2, none⟩ (.int .i64 1)).alloc (.cells #[.int .i64 t.f0, .bool t.f1] 48)).alloc (nodeOf t (w.heap.size + 1))) := by
  have hlt := blk_lt h0
  have f0 := fun i => blk_frozen h0 i
  have c0 : w.cell? ⟨g, 0, none⟩ = some (.pointer none) := blk_cell h0 0
  have c1 : w.cell? ⟨g, 1, none⟩ = some (.pointer none) := blk_cell h0 1
  have c2 : w.cell? ⟨g, 2, none⟩ = some (.int .i64 0) := blk_cell h0 2
  have hne : ¬ (w.heap.size + 1 = g) := by omega
  have hu48 := Try.underlying48
  have hu89 := Try.underlying89
  have hu79 := Try.underlying79
  have hu77 := Try.underlying77
  have H0 := Aside0.mk h0
  clear h0
  go_enter Try.func68, Try.ntmps68
  go_wp2
  go_end0
  exact ⟨rfl, rfl⟩
set_option maxHeartbeats 1000000 in
set_option maxRecDepth 100000 in
theorem add_more (g b l : Nat) (n : Nat) (hn : n ≤ 1000) (x : S48) (nx : Value) (t : S48) (w : World) (h0 : w.heap[g]? = some (.cells #[.pointer (some ⟨b, 0, none⟩), .pointer (some ⟨l, 0, none⟩), .int .i64 (n : Int)] 79 (0, 0)))
    (hl : w.heap[l]? = some (.cells #[.int .i64 x.f0, .bool x.f1, nx] 89 (0, 0))) :
    Calls Try.prog 68 #[.pointer (some ⟨g, 0, none⟩), .agg #[.int .i64 t.f0, .bool t.f1]] w fun e w' => e = .returned (.tuple #[]) ∧ w' = (((((w.setCell ⟨l, 2, none⟩ (.pointer (some ⟨w.heap.size + 1, 0, none⟩))).setCell ⟨g, 1, none⟩ (.pointer (some ⟨w.heap.size + 1, 0, none⟩))).setCell ⟨g, 2, none⟩ (.int .i64 ((n : Int) + 1))).alloc (.cells #[.int .i64 t.f0, .bool t.f1] 48)).alloc (nodeOf t b)) := by
  have hlt := blk_lt h0
  have hlt2 := blk_lt hl
  have hgl : ¬ (g = l) := blk_ne h0 hl (by decide)
  have hlg : ¬ (l = g) := fun e => hgl e.symm
  have f0 := fun i => blk_frozen h0 i
  have f1 := fun i => blk_frozen hl i
  have c0 : w.cell? ⟨g, 0, none⟩ = some (.pointer (some ⟨b, 0, none⟩)) := blk_cell h0 0
  have c1 : w.cell? ⟨g, 1, none⟩ = some (.pointer (some ⟨l, 0, none⟩)) := blk_cell h0 1
  have c2 : w.cell? ⟨g, 2, none⟩ = some (.int .i64 (n : Int)) := blk_cell h0 2
  have d2 : w.cell? ⟨l, 2, none⟩ = some nx := blk_cell hl 2
  have hu48 := Try.underlying48
  have hu89 := Try.underlying89
  have hu79 := Try.underlying79
  have hu77 := Try.underlying77
  have H0 := Aside0.mk h0
  have HL := Aside0.mk hl
  clear h0 hl
  go_enter Try.func68, Try.ntmps68
  go_wp2
  go_end0
  exact ⟨rfl, rfl⟩
theorem add_any {W0 w : World} {g : Nat} {B : Nat → Nat} {ts : List S48} (h : IsRing W0 w g B ts) (hn : ts.length ≤ 1000) (t : S48) :
    Calls Try.prog 68 #[.pointer (some ⟨g, 0, none⟩), .agg #[.int .i64 t.f0, .bool t.f1]] w fun e w' => e = .returned (.tuple #[]) ∧ (∃ B', IsRing W0 w' g B' (ts ++ [t])) ∧ ∀ (k q : Nat) (cs : Array Value), q ≠ 79 → q ≠ 89 → w.heap[k]? = some (.cells cs q (0, 0)) → w'.heap[k]? = some (.cells cs q (0, 0)) := by
  by_cases h0 : ts = []
  · subst h0
    refine (add_first g t w h.ring).mono ?_
    rintro e w' ⟨rfl, rfl⟩
    refine ⟨rfl, ⟨_, h.first t _⟩, fun k q cs h1 h2 hk => ?_⟩
    have hkg : k ≠ g := blk_ne hk h.ring h1
    exact blk_alloc (blk_alloc (blk_far (p := ⟨g, 2, none⟩) (blk_far (p := ⟨g, 1, none⟩) (blk_far (p := ⟨g, 0, none⟩) hk hkg _) hkg _) hkg _) _) _
  · have hp : 0 < ts.length := List.length_pos_iff.2 h0
    have hr := h.ring
    have e0 : ¬ (ts.length = 0) := by omega
    simp only [rp, e0, if_false] at hr
    refine (add_more g (B 0) (B (ts.length - 1)) ts.length hn ts[ts.length - 1] _ t w hr (h.node _ (by omega))).mono ?_
    rintro e w' ⟨rfl, rfl⟩
    refine ⟨rfl, ⟨_, h.more hp t _⟩, fun k q cs h1 h2 hk => ?_⟩
    have hkg : k ≠ g := blk_ne hk h.ring h1
    have hkl : k ≠ B (ts.length - 1) := blk_ne hk (h.node (ts.length - 1) (by omega)) h2
    exact blk_alloc (blk_alloc (blk_far (p := ⟨g, 2, none⟩) (blk_far (p := ⟨g, 1, none⟩) (blk_far (p := ⟨B (ts.length - 1), 2, none⟩) hk hkl _) hkg _) hkg _) _) _
def expand (l : List S59) : List S48 := l.flatMap fun v => List.replicate v.f1.toNat v.f0
theorem expand_snoc (l : List S59) (i : Nat) (h : i < l.length) : expand (l.take (i + 1)) = expand (l.take i) ++ List.replicate l[i].f1.toNat l[i].f0 := by
  unfold expand
  rw [List.take_succ_eq_append_getElem h, List.flatMap_append]
  simp
theorem expand_len (l : List S59) (h : ∀ v ∈ l, v.f1 ≤ 3) : (expand l).length ≤ 3 * l.length := by
  induction l with
  | nil => simp [expand]
  | cons v l ih =>
    have h1 := ih (fun x hx => h x (by simp [hx]))
    have h2 := h v (by simp)
    have e : expand (v :: l) = List.replicate v.f1.toNat v.f0 ++ expand l := by simp [expand]
    rw [e, List.length_append, List.length_replicate, List.length_cons]
    omega
theorem rdV_at (l : List S59) (i : Nat) (h : i < l.length) : rd_T59 l (i : Int) = l[i] := by
  simp [rd_T59, List.getD_eq_getElem?_getD, h]
set_option maxHeartbeats 2000000 in
set_option maxRecDepth 100000 in
theorem ringOf_no (k : Nat) (A0 : Option Addr) (c0 : Nat) (l0 : List (S59)) (w : World) (hr0 : Kd.C k59 w A0 l0.length l0) (hc0 : l0.length ≤ c0) (h : impl_PartValid.f k l0 = some false) :
    Calls Try.prog 61 #[.slice A0 l0.length c0] w fun e w' => e = .returned (.tuple #[.pointer none, .bool false]) ∧ Below w.heap.size w w' := by
  have HR0 := Aside0.mk hr0
  have HC0 := Aside0.mk hc0
  have H := Aside0.mk h
  clear hr0 hc0 h
  go_enter Try.func61, Try.ntmps61
  go_wp2_with (first | (go_at_call 34; (with_reducible refine (impl_PartValid.calls k A0 c0 l0 false _ HR0.out HC0.out H.out).mono ?_); rintro e w1 ⟨rfl, hb⟩))
  go_ret2
  exact ⟨rfl, hb⟩
set_option maxHeartbeats 4000000 in
set_option maxRecDepth 100000 in
theorem ringOf_yes (k : Nat) (A0 : Option Addr) (c0 : Nat) (l0 : List (S59)) (w : World) (hr0 : Kd.C k59 w A0 l0.length l0) (hc0 : l0.length ≤ c0) (h : impl_PartValid.f k l0 = some true) (hv : ∀ v ∈ l0, 0 ≤ v.f1 ∧ v.f1 ≤ 3) (hl : l0.length ≤ 12) :
    Calls Try.prog 61 #[.slice A0 l0.length c0] w fun e w' => ∃ g : Nat, e = .returned (.tuple #[.pointer (some ⟨g, 0, none⟩), .bool true]) ∧ ∃ B, IsRing w w' g B (expand l0) := by
  have hu59 := Try.underlying59
  have hu48 := Try.underlying48
  have hu79 := Try.underlying79
  have HR0 := Aside0.mk hr0
  have HC0 := Aside0.mk hc0
  have H := Aside0.mk h
  have HV := Aside0.mk hv
  clear hr0 hc0 h hv
  go_enter Try.func61, Try.ntmps61
  go_wp2_with (first | (go_at_call 34; (with_reducible refine (impl_PartValid.calls k A0 c0 l0 true _ HR0.out HC0.out H.out).mono ?_); rintro e w1 ⟨rfl, hb⟩; have HB := Aside0.mk hb; clear hb))
  go_loopg [14] l0.length (fun kq v14 w' => ∃ i : Nat, v14 = .int .i64 (i : Int) ∧ Aside0 (i ≤ l0.length ∧ kq = l0.length - i) ∧ ∃ B, Aside0 (IsRing w w' w1.heap.size B (expand (l0.take i))))
  case atStart => exact ⟨0, rfl, ⟨by omega, by omega⟩, _, ⟨IsRing.empty0 HB.out⟩⟩
  case round =>
    obtain ⟨i, rfl, HI, B, HR⟩ := hrel
    by_cases hlt : i < l0.length
    · obtain ⟨ad, e1, hx0, hx1, hx2⟩ := at_T59 (Kd.C_below HR0.out HR.out.below) (i : Int) (by omega) (by omega)
      cases e1
      simp only [Int.toNat_natCast] at hx0 hx1 hx2
      have hri := rdV_at l0 i hlt
      have hb1 := HV.out l0[i] (List.getElem_mem hlt)
      rw [← hri] at hb1
      have hb2 : (rd_T59 l0 (i : Int)).f1 ≤ 3 := hb1.2
      have hb3 : 0 ≤ (rd_T59 l0 (i : Int)).f1 := hb1.1
      have HRI := Aside0.mk hri
      clear hri hb1
      generalize rd_T59 l0 (i : Int) = x at *
      go_wp2
      obtain ⟨wo, rfl⟩ : ∃ wo : World, wo = wr := ⟨_, rfl⟩
      go_loopg [20] x.f1.toNat (fun kq v20 w' => ∃ j : Nat, v20 = .int .i64 (j : Int) ∧ Aside0 ((j : Int) ≤ x.f1 ∧ kq = x.f1.toNat - j) ∧ (∃ B, Aside0 (IsRing w w' w1.heap.size B (expand (l0.take i) ++ List.replicate j x.f0))) ∧ Aside0 (w'.heap[wo.heap.size]? = some (.cells #[.int .i64 x.f0.f0, .bool x.f0.f1, .int .i64 x.f1] 59 (0, 0))))
      case atStart => exact ⟨0, rfl, ⟨by omega, by omega⟩, ⟨B, ⟨by simpa using HR.out.mono (below_alloc (Below.refl _ _) _)⟩⟩, ⟨blk_new _ _⟩⟩
      case round =>
        obtain ⟨j, rfl, HJ, ⟨B1, HR1⟩, HB1⟩ := hrel
        have b0 : wr.cell? ⟨wo.heap.size, 0, none⟩ = some (.int .i64 x.f0.f0) := blk_cell HB1.out 0
        have b1 : wr.cell? ⟨wo.heap.size, 1, none⟩ = some (.bool x.f0.f1) := blk_cell HB1.out 1
        by_cases hjt : (j : Int) < x.f1
        · have hlen : (expand (l0.take i) ++ List.replicate j x.f0).length ≤ 1000 := by
            have h1 := expand_len (l0.take i) (fun v hv => (HV.out v (List.mem_of_mem_take hv)).2)
            rw [List.length_append, List.length_replicate]
            rw [List.length_take] at h1
            have := HJ.out.1
            omega
          have HL := Aside0.mk hlen
          clear hlen
          go_wp2_with (first | (go_at_call 68; (with_reducible refine (add_any HR1.out HL.out x.f0).mono ?_); rintro e w3 ⟨rfl, hR, hK⟩; have HR2 := Aside0.mk hR; have HK2 := Aside0.mk hK; clear hR hK))
          go_roundg (x.f1.toNat - (j + 1))
          case measure => have := HJ.out; omega
          case rel =>
            obtain ⟨B2, hR2⟩ := HR2.out
            refine ⟨j + 1, by simp, ⟨by omega, rfl⟩, ⟨B2, ⟨?_⟩⟩, ⟨HK2.out _ _ _ (by decide) (by decide) HB1.out⟩⟩
            rw [List.replicate_succ', ← List.append_assoc]
            exact hR2
        · go_wp2
          go_roundg (l0.length - (i + 1))
          case measure => have := HI.out; omega
          case rel =>
            refine ⟨i + 1, by simp, ⟨by omega, rfl⟩, B1, ⟨?_⟩⟩
            rw [expand_snoc l0 i hlt, ← HRI.out, show x.f1.toNat = j by have := HJ.out.1; omega]
            exact HR1.out
    · go_wp2
      go_ret2
      refine ⟨_, rfl, B, ?_⟩
      have e : i = l0.length := by have := HI.out; omega
      have hR := HR.out
      rw [e, List.take_length] at hR
      exact hR
theorem valid_facts : ∀ (k : Nat) (x3 : Int) (l : List S59) (i : Nat), i ≤ l.length → l.length ≤ 12 → impl_PartValid.l0 k x3 l (l.length : Int) (i : Int) = some true → ∀ v ∈ l.drop i, 1 ≤ v.f1 ∧ v.f1 ≤ 3 := by
  intro k
  induction k with
  | zero => intro x3 l i _ _ h; simp [impl_PartValid.l0] at h
  | succ k ih =>
    intro x3 l i hi hl h v hv
    simp only [impl_PartValid.l0] at h
    by_cases hlt : i < l.length
    · rw [if_pos (by omega), if_pos (by omega), if_pos (by omega), rdV_at l i hlt] at h
      obtain ⟨b, hb, h⟩ := Option.bind_eq_some_iff.mp h
      have hb1 : b = true := by
        cases b with
        | true => rfl
        | false => simp at h
      rw [if_pos hb1] at h
      by_cases h1 : l[i].f1 < 1
      · rw [if_pos h1] at h; simp at h
      · rw [if_neg h1] at h
        by_cases h3 : l[i].f1 > 3
        · rw [if_pos h3] at h; simp at h
        · rw [if_neg h3, show wrap64 ((i : Int) + 1) = ((i + 1 : Nat) : Int) by unfold wrap64; omega] at h
          rw [List.drop_eq_getElem_cons hlt] at hv
          rcases List.mem_cons.1 hv with rfl | hv
          · omega
          · exact ih _ l (i + 1) (by omega) hl h v hv
    · rw [List.drop_eq_nil_of_le (by omega)] at hv
      simp at hv
theorem valid_true {k : Nat} {l : List S59} (h : impl_PartValid.f k l = some true) : l.length ≤ 12 ∧ ∀ v ∈ l, 1 ≤ v.f1 ∧ v.f1 ≤ 3 := by
  unfold impl_PartValid.f at h
  by_cases hl : (l.length : Int) > 12
  · rw [if_pos hl] at h; simp at h
  · rw [if_neg hl] at h
    exact ⟨by omega, by simpa using valid_facts k 0 l 0 (by omega) (by omega) h⟩

/-- The number of beats of a part, or -1. -/
def impl_PartBeats.f (k : Nat) (l0 : List (S59)) : Option Int := (impl_PartValid.f k l0).bind fun b => some (if b = true then ((expand l0).length : Int) else -1)
theorem impl_PartBeats.mono : ∀ a0 k, LeO (impl_PartBeats.f k a0) (impl_PartBeats.f (k + 1) a0) := by
  intro a0 k
  unfold impl_PartBeats.f
  exact LeO.bind (impl_PartValid.mono _ _) (fun _ => LeO.refl _)
set_option maxHeartbeats 2000000 in
set_option maxRecDepth 100000 in
theorem impl_PartBeats.calls (k : Nat) (A0 : Option Addr) (c0 : Nat) (l0 : List (S59)) (r : Int) (w : World) (hr0 : Kd.C k59 w A0 l0.length l0) (hc0 : l0.length ≤ c0) (h : impl_PartBeats.f k l0 = some r) :
    Calls Try.prog 37 #[.slice A0 l0.length c0] w fun e w' => e = .returned (.int .i64 r) ∧ Below w.heap.size w w' := by
  obtain ⟨b, hb, h⟩ := Option.bind_eq_some_iff.mp h
  have HR0 := Aside0.mk hr0
  have HC0 := Aside0.mk hc0
  have H := Aside0.mk hb
  clear hr0 hc0 hb
  have hu79 := Try.underlying79
  cases b with
  | false =>
    obtain rfl := Option.some.inj h
    go_enter Try.func37, Try.ntmps37
    go_wp2_with (first | (go_at_call 61; (with_reducible refine (ringOf_no k A0 c0 l0 _ HR0.out HC0.out H.out).mono ?_); rintro e w1 ⟨rfl, hb⟩))
    go_ret
    exact ⟨rfl, hb⟩
  | true =>
    obtain rfl := Option.some.inj h
    obtain ⟨hl, hv⟩ := valid_true H.out
    have HV := Aside0.mk (show ∀ v ∈ l0, 0 ≤ v.f1 ∧ v.f1 ≤ 3 from fun v hv' => ⟨by have := hv v hv'; omega, (hv v hv').2⟩)
    clear hv
    go_enter Try.func37, Try.ntmps37
    go_wp2_with (first | (go_at_call 61; (with_reducible refine (ringOf_yes k A0 c0 l0 _ HR0.out HC0.out H.out HV.out hl).mono ?_); rintro e w1 ⟨g, rfl, B, hR⟩; have HR := Aside0.mk hR; have hc := blk_cell hR.ring 2; clear hR))
    go_ret
    exact ⟨rfl, HR.out.below⟩


-- INNER impl_beatRing_at
set_option maxHeartbeats 2000000 in
set_option maxRecDepth 100000 in
theorem ring_at {W0 w : World} {g : Nat} {B : Nat → Nat} {ts : List S48} (h : IsRing W0 w g B ts) (hn : ts.length ≤ 1000) (x : Nat) (hx : x < ts.length) :
    Calls Try.prog 63 #[.pointer (some ⟨g, 0, none⟩), .int .i64 (x : Int)] w fun e w' => e = .returned (.agg #[.int .i64 ts[x].f0, .bool ts[x].f1]) ∧ Below w.heap.size w w' := by
  have hu48 := Try.underlying48
  have hu89 := Try.underlying89
  have hu79 := Try.underlying79
  have hu77 := Try.underlying77
  have H := Aside0.mk h
  have e0 : ¬ (ts.length = 0) := by omega
  have hr := (h.mono (below_alloc (Below.refl _ _) (.cells #[.int .i64 0, .bool false] 48))).ring
  simp only [rp, e0, if_false] at hr
  have c0 : (w.alloc (.cells #[.int .i64 0, .bool false] 48)).cell? ⟨g, 0, none⟩ = some (.pointer (some ⟨B 0, 0, none⟩)) := blk_cell hr 0
  clear h hr
  go_enter Try.func63, Try.ntmps63
  go_wp2
  go_loopg [5, 11] x (fun kq v5 v11 w' => ∃ j : Nat, v11 = .int .i64 (j : Int) ∧ v5 = .pointer (some ⟨B j, 0, none⟩) ∧ Aside0 (j ≤ x ∧ kq = x - j) ∧ Aside0 (Below w.heap.size w w') ∧ Aside0 (w'.heap[w.heap.size]? = some (.cells #[.int .i64 0, .bool false] 48 (0, 0))))
  case atStart => exact ⟨0, rfl, rfl, ⟨by omega, by omega⟩, ⟨below_alloc (Below.refl _ _) _⟩, ⟨blk_new _ _⟩⟩
  case round =>
    obtain ⟨j, rfl, rfl, HJ, HB, HK⟩ := hrel
    have hj : j < ts.length := by have := HJ.out; omega
    have nd := (H.out.mono HB.out).node j hj
    have n0 : wr.cell? ⟨B j, 0, none⟩ = some (.int .i64 ts[j].f0) := blk_cell nd 0
    have n1 : wr.cell? ⟨B j, 1, none⟩ = some (.bool ts[j].f1) := blk_cell nd 1
    have n2 : wr.cell? ⟨B j, 2, none⟩ = some (.pointer (some ⟨B (if j + 1 = ts.length then 0 else j + 1), 0, none⟩)) := blk_cell nd 2
    clear nd
    by_cases hjx : j < x
    · rw [if_neg (by omega)] at n2
      go_wp2
      go_roundg (x - (j + 1))
      case measure => have := HJ.out; omega
      case rel => exact ⟨j + 1, by simp, rfl, ⟨by omega, rfl⟩, HB, HK⟩
    · have e : j = x := by have := HJ.out.1; omega
      subst e
      clear n2
      have k0 := blk_cell HK.out 0
      have k1 := blk_cell HK.out 1
      have kf := fun i => blk_frozen HK.out i
      go_wp2
      refine bodyPost_ret (results_cell_row rfl _ _ w.heap.size 48 #[.int .i64 ts[j].f0, .bool ts[j].f1] (0, 0) _ rfl (blk_put (cs := #[.int .i64 ts[j].f0, .bool false]) (blk_put HK.out 0 _ rfl) 1 _ rfl) Try.underlying48 rfl (by kernel_rfl)) rfl ?_
      exact ⟨rfl, below_set (below_set HB.out (Nat.le_refl _)) (Nat.le_refl _)⟩
/-- The tone at a beat of a part. -/
def impl_PartAt.f (k : Nat) (l0 : List (S59)) (a1 : Int) : Option (Int × Bool × Bool) := (impl_PartValid.f k l0).bind fun b => some (if b = true then (if 0 ≤ a1 then (if a1 < ((expand l0).length : Int) then (((expand l0).getD a1.toNat z48).f0, ((expand l0).getD a1.toNat z48).f1, true) else (0, false, false)) else (0, false, false)) else (0, false, false))
theorem impl_PartAt.mono : ∀ a0 a1 k, LeO (impl_PartAt.f k a0 a1) (impl_PartAt.f (k + 1) a0 a1) := by
  intro a0 a1 k
  unfold impl_PartAt.f
  exact LeO.bind (impl_PartValid.mono _ _) (fun _ => LeO.refl _)
set_option maxHeartbeats 4000000 in
set_option maxRecDepth 100000 in
theorem impl_PartAt.calls (k : Nat) (A0 : Option Addr) (c0 : Nat) (l0 : List (S59)) (a1 : Int) (r1 : Int) (r2 : Bool) (r3 : Bool) (w : World) (hr0 : Kd.C k59 w A0 l0.length l0) (hc0 : l0.length ≤ c0) (h : impl_PartAt.f k l0 a1 = some (r1, r2, r3)) :
    Calls Try.prog 39 #[.slice A0 l0.length c0, .int .i64 a1] w fun e w' => e = .returned (.tuple #[.agg #[.int .i64 r1, .bool r2], .bool r3]) ∧ Below w.heap.size w w' := by
  obtain ⟨b, hb, h⟩ := Option.bind_eq_some_iff.mp h
  have e1 := Option.some.inj h
  clear h
  have hr1 : Kd.C k59 (w.alloc (.cells #[.int .i64 0, .bool false] 48)) A0 l0.length l0 := Kd.C_alloc hr0 _
  have HR0 := Aside0.mk hr1
  have HC0 := Aside0.mk hc0
  have H := Aside0.mk hb
  clear hr0 hc0 hb hr1
  have hu79 := Try.underlying79
  have hu48 := Try.underlying48
  have hn := blk_new w (.cells #[.int .i64 0, .bool false] 48)
  have HN := Aside0.mk hn
  clear hn
  have HB0 := Aside0.mk (below_alloc (Below.refl w.heap.size w) (.cells #[.int .i64 0, .bool false] 48))
  cases b with
  | false =>
    obtain ⟨rfl, rfl, rfl⟩ : 0 = r1 ∧ false = r2 ∧ false = r3 := by simpa using e1
    clear e1
    go_enter Try.func39, Try.ntmps39
    go_wp2_with (first | (go_at_call 61; (with_reducible refine (ringOf_no k A0 c0 l0 _ HR0.out HC0.out H.out).mono ?_); rintro e w1 ⟨rfl, hb⟩; have HB := Aside0.mk (below_step HB0.out hb); have HK := Aside0.mk (blk_below HN.out hb); have k0 := blk_cell HK.out 0; have k1 := blk_cell HK.out 1; have kf := fun i => blk_frozen HK.out i; clear hb))
    refine bodyPost_ret (results_ct rfl _ _ w.heap.size 48 #[.int .i64 0, .bool false] (0, 0) _ rfl (blk_put (cs := #[.int .i64 0, .bool false]) (blk_put HK.out 0 _ rfl) 1 _ rfl) Try.underlying48 rfl (by kernel_rfl)) rfl ?_
    exact ⟨rfl, below_set (below_set HB.out (Nat.le_refl _)) (Nat.le_refl _)⟩
  | true =>
    obtain ⟨hl, hv⟩ := valid_true H.out
    have HV := Aside0.mk (show ∀ v ∈ l0, 0 ≤ v.f1 ∧ v.f1 ≤ 3 from fun v hv' => ⟨by have := hv v hv'; omega, (hv v hv').2⟩)
    have hlen := expand_len l0 (fun v h => (hv v h).2)
    clear hv
    by_cases h0 : 0 ≤ a1
    · obtain ⟨x, rfl⟩ := Int.eq_ofNat_of_zero_le h0
      by_cases h1 : x < (expand l0).length
      · have e2 : (expand l0)[x].f0 = r1 ∧ (expand l0)[x].f1 = r2 ∧ true = r3 := by
          rw [if_pos rfl, if_pos h0, if_pos (by omega)] at e1
          simpa [List.getD_eq_getElem?_getD, h1] using e1
        obtain ⟨rfl, rfl, rfl⟩ := e2
        clear e1 h0
        go_enter Try.func39, Try.ntmps39
        go_wp2_with (first | (go_at_call 61; (with_reducible refine (ringOf_yes k A0 c0 l0 _ HR0.out HC0.out H.out HV.out hl).mono ?_); rintro e w1 ⟨g, rfl, B, hR⟩; have HR := Aside0.mk hR; have hc := blk_cell hR.ring 2; clear hR) | (go_at_call 63; (with_reducible refine (ring_at HR.out (by omega) x h1).mono ?_); rintro e w2 ⟨rfl, hb⟩; have HB := Aside0.mk (below_step (below_step HB0.out HR.out.below) hb); have HK := Aside0.mk (blk_below (blk_below HN.out HR.out.below) hb); have k0 := blk_cell HK.out 0; have k1 := blk_cell HK.out 1; have kf := fun i => blk_frozen HK.out i; clear hb))
        refine bodyPost_ret (results_ct rfl _ _ w.heap.size 48 #[.int .i64 (expand l0)[x].f0, .bool (expand l0)[x].f1] (0, 0) _ rfl (blk_put (cs := #[.int .i64 (expand l0)[x].f0, .bool false]) (blk_put HK.out 0 _ rfl) 1 _ rfl) Try.underlying48 rfl (by kernel_rfl)) rfl ?_
        exact ⟨rfl, below_set (below_set HB.out (Nat.le_refl _)) (Nat.le_refl _)⟩
      · obtain ⟨rfl, rfl, rfl⟩ : 0 = r1 ∧ false = r2 ∧ false = r3 := by
          rw [if_pos rfl, if_pos h0, if_neg (by omega)] at e1
          simpa using e1
        clear e1 h0
        go_enter Try.func39, Try.ntmps39
        go_wp2_with (first | (go_at_call 61; (with_reducible refine (ringOf_yes k A0 c0 l0 _ HR0.out HC0.out H.out HV.out hl).mono ?_); rintro e w1 ⟨g, rfl, B, hR⟩; have HR := Aside0.mk hR; have hc := blk_cell hR.ring 2; have HB := Aside0.mk (below_step HB0.out hR.below); have HK := Aside0.mk (blk_below HN.out hR.below); have k0 := blk_cell HK.out 0; have k1 := blk_cell HK.out 1; have kf := fun i => blk_frozen HK.out i; clear hR))
        refine bodyPost_ret (results_ct rfl _ _ w.heap.size 48 #[.int .i64 0, .bool false] (0, 0) _ rfl (blk_put (cs := #[.int .i64 0, .bool false]) (blk_put HK.out 0 _ rfl) 1 _ rfl) Try.underlying48 rfl (by kernel_rfl)) rfl ?_
        exact ⟨rfl, below_set (below_set HB.out (Nat.le_refl _)) (Nat.le_refl _)⟩
    · obtain ⟨rfl, rfl, rfl⟩ : 0 = r1 ∧ false = r2 ∧ false = r3 := by
        rw [if_pos rfl, if_neg h0] at e1
        simpa using e1
      clear e1
      go_enter Try.func39, Try.ntmps39
      go_wp2_with (first | (go_at_call 61; (with_reducible refine (ringOf_yes k A0 c0 l0 _ HR0.out HC0.out H.out HV.out hl).mono ?_); rintro e w1 ⟨g, rfl, B, hR⟩; have HR := Aside0.mk hR; have hc := blk_cell hR.ring 2; have HB := Aside0.mk (below_step HB0.out hR.below); have HK := Aside0.mk (blk_below HN.out hR.below); have k0 := blk_cell HK.out 0; have k1 := blk_cell HK.out 1; have kf := fun i => blk_frozen HK.out i; clear hR))
      refine bodyPost_ret (results_ct rfl _ _ w.heap.size 48 #[.int .i64 0, .bool false] (0, 0) _ rfl (blk_put (cs := #[.int .i64 0, .bool false]) (blk_put HK.out 0 _ rfl) 1 _ rfl) Try.underlying48 rfl (by kernel_rfl)) rfl ?_
      exact ⟨rfl, below_set (below_set HB.out (Nat.le_refl _)) (Nat.le_refl _)⟩


end Go.Proofs.Ytdddnfbedckgkaa.GS
