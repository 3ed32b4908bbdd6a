-- Made by this session's gprint.py out of the translation. Not trusted: Lean checks it. -- SLIM -- SQUEEZED
import Derived.Test.YtjnkmckklmabcaaGreatDoorShelf
import Derived.Test.YtjnkmckklmabcaaGreatDoorXLx0
import Derived.Test.YtjnkmckklmabcaaGreatDoorXLx2
namespace Go.Proofs.YtjnkmckklmabcaaGreatDoor.XL
open Go.RowKit Go.Proofs.YtjnkmckklmabcaaGreatDoorW.PrintWords Go.Proofs.YtjnkmckklmabcaaGreatDoorW.PrintLast Go.Proofs.YtjnkmckklmabcaaGreatDoorW.PrintMore
attribute [local go_sem] max2_int min2_int max_two min_two max_three min_three max_four min_four   -- for this text's walks alone
set_option maxHeartbeats 8000000
set_option maxRecDepth 100000
set_option linter.unusedVariables false
set_option linter.unusedSimpArgs false

/-! ### impl_MelodyValid: function 53 -/
def impl_MelodyValid.l0 : Nat → List (S74) → Int → Int → Option (Bool)
 | 0, _, _, _ => none
 | k + 1, x8, x9, x10 => if x10 < x9 then (if 0 ≤ x10 then (if x10 < (x8.length : Int) then ((impl_Tone_valid.f ((rd_T74 x8 x10).f0) ((rd_T74 x8 x10).f1)).bind fun t110 => (if t110 = true then (impl_MelodyValid.l0 k x8 x9 (wrap64 (x10 + 1))) else (some false))) else (none)) else (none)) else (some true)
def impl_MelodyValid.f (k : Nat) (l0 : List (S74)) : Option (Bool) := if (l0.length : Int) > 24 then (some false) else (impl_MelodyValid.l0 k l0 (l0.length : Int) 0)
theorem impl_MelodyValid.mono_l : ∀ k, (∀ y0 y1 y2, LeO (impl_MelodyValid.l0 k y0 y1 y2) (impl_MelodyValid.l0 (k + 1) y0 y1 y2))
 | 0 => fun _ _ _ r h => by simp [impl_MelodyValid.l0] at h
 | k + 1 => by
  have ih0 := impl_MelodyValid.mono_l k
  ·intro y0 y1 y2
   unfold impl_MelodyValid.l0
   repeat' first
   | (with_reducible exact ih0 _ _ _)
   | (with_reducible exact LeO.refl _)
   | (with_reducible exact LeO.none _)
   | (with_reducible refine LeO.ite ?_ ?_)
   | (with_reducible refine LeO.bind ?_ (fun _ => ?_))
   | exact ih0 _ _ _
   | exact LeO.none _
   | refine LeO.ite ?_ ?_
   | refine LeO.bind ?_ (fun _ => ?_)
theorem impl_MelodyValid.mono : ∀ a0 k, LeO (impl_MelodyValid.f k a0) (impl_MelodyValid.f (k + 1) a0) := by
 intro a0 k
 have ih0 := impl_MelodyValid.mono_l k
 unfold impl_MelodyValid.f
 repeat' first
   | (with_reducible exact ih0 _ _ _)
   | (with_reducible exact LeO.refl _)
   | (with_reducible exact LeO.none _)
   | (with_reducible refine LeO.ite ?_ ?_)
   | (with_reducible refine LeO.bind ?_ (fun _ => ?_))
   | exact ih0 _ _ _
   | exact LeO.none _
   | refine LeO.ite ?_ ?_
   | refine LeO.bind ?_ (fun _ => ?_)
theorem impl_MelodyValid.calls (k : Nat) (A0 : Option Addr) (c0 : Nat) (l0 : List (S74)) (r : Bool) (w : World) (hr0 : Kd.C k74 w A0 l0.length l0) (hc0 : l0.length ≤ c0) (h : impl_MelodyValid.f k l0 = some r) :
  Calls Tryz.prog 53 #[.slice A0 l0.length c0] w fun e w' => e = .returned (.bool r) ∧ Below w.heap.size w w' := by
 have hu74 := Tryz.underlying74
 have HR0 := am hr0
 have HC0 := am hc0
 clear hr0 hc0
 have HB := am (Below.refl w.heap.size w)
 have H : (if (l0.length : Int) > 24 then (some false) else (impl_MelodyValid.l0 k l0 (l0.length : Int) 0)) = some r := h
 clear h
 by_cases c2 : (l0.length : Int) > 24
 ·rw [if_pos c2] at H
  have c2b0 : decide (24 < (l0.length : Int)) = true := decide_eq_true c2
  have c2b1 : decide (24 < l0.length) = true := decide_eq_true (by omega)
  clear c2
  obtain rfl := Option.some.inj H
  go_enter Tryz.func53, Tryz.ntmps53
  go_wp2
  go_ret
  exact ⟨by first | rfl | (simp [*] <;> rfl), bu HB.out⟩
 rw [if_neg c2] at H
 have c2b0 : decide (24 < (l0.length : Int)) = false := decide_eq_false c2
 have c2b1 : decide (24 < l0.length) = false := decide_eq_false (by omega)
 clear c2
 have H' := am H
 clear H
 go_enter Tryz.func53, Tryz.ntmps53
 go_wp2
 go_loopg [10] k (fun kq v10 w' => ∃ (x10_1 : Int), v10 = .int .i64 x10_1 ∧ Aside0 (impl_MelodyValid.l0 kq l0 (l0.length : Int) x10_1 = some r) ∧ Aside0 (kq ≤ k) ∧ Aside0 (Below w.heap.size w w'))
 case atStart => exact ⟨(0), (by first | rfl | simp | simp [*]), H', ⟨Nat.le_refl _⟩, ⟨bu HB.out⟩⟩
 case round =>
  clear H'
  (try clear c2); (try clear c2b0); (try clear c2b1); (try clear p2)
  obtain ⟨x10_1, rfl, HA, HK1, HB⟩ := hrel
  cases gk with
  | zero => exact absurd HA.out (by simp [impl_MelodyValid.l0])
  | succ k1 =>
   have H := HA.out
   clear HA
   simp only [impl_MelodyValid.l0] at H
   by_cases c3 : x10_1 < (l0.length : Int)
   ·rw [if_pos c3] at H
    have c3b0 : decide (x10_1 < (l0.length : Int)) = true := decide_eq_true c3
    clear c3
    by_cases c4 : 0 ≤ x10_1
    case neg => rw [if_neg c4] at H; exact absurd H (by simp)
    rw [if_pos c4] at H
    have c4b0 : decide (0 ≤ x10_1) = true := decide_eq_true c4
    clear c4
    by_cases c5 : x10_1 < (l0.length : Int)
    case neg => rw [if_neg c5] at H; exact absurd H (by simp)
    rw [if_pos c5] at H
    have c5b0 : decide (x10_1 < (l0.length : Int)) = true := decide_eq_true c5
    clear c5
    replace H := Option.bind_eq_some_iff.mp H
    obtain ⟨t110, A60, H⟩ := H
    replace H : (if t110 = true then (impl_MelodyValid.l0 k1 l0 (l0.length : Int) (wrap64 (x10_1 + 1))) else (some false)) = some r := H
    have A6 := am A60
    clear A60
    by_cases c7 : t110 = true
    ·subst c7
     have H1 : (impl_MelodyValid.l0 k1 l0 (l0.length : Int) (wrap64 (x10_1 + 1))) = some r := by rw [if_pos rfl] at H; exact H
     clear H
     have H := H1
     clear H1
     have H' := am H
     clear H
     have p108 : 0 ≤ (x10_1 : Int) := od
     have q108 : x10_1 < (l0.length : Int) := od
     obtain ⟨ad108, e108, hx108_0, hx108_1⟩ := at_T74 HR0.out x10_1 p108 q108
     cases e108
     replace hx108_0 := (HB.out.cell (World.block_lt_of_cell? w _ hx108_0)).trans hx108_0
     replace hx108_1 := (HB.out.cell (World.block_lt_of_cell? w _ hx108_1)).trans hx108_1
     replace p108 := eq_true p108
     replace q108 := eq_true q108
     go_wp2_with (first | ((with_reducible refine gate_dst (N := 4) rfl ?_); refine box_event ?hg (N := 4) ?hd (cs := #[.int .i64 0, .bool false]) (t := 74) ?hr ?_; (case hd => rfl); (case hg => rfl); (case hr => first | (go_simp; done) | (go_simp; rfl)); intro gb109 hg w8 hbox hb; have n0_ := am (below_step (bu HB.out) hb); have n1_ := am (hbox); have n2_ := am ((by rw [hg]; exact (below_size (bu HB.out)) : w.heap.size ≤ gb109)); have n3_ := am ((by rw [hg]; exact (below_size (bu HB.out)) : w.heap.size ≤ gb109)); clear HB; have HB := n0_; have BK109 := n1_; have GW109 := n2_; have GE109 := n3_; clear n0_ n1_ n2_ n3_; clear hb hbox hg; have hcz9_0 : w8.cell? ⟨gb109, 0, none⟩ = some (.int .i64 0) := (blk_cell BK109.out 0).trans rfl; have hcz9_1 : w8.cell? ⟨gb109, 1, none⟩ = some (.bool false) := (blk_cell BK109.out 1).trans rfl; have hfz9_0 := blk_frozen BK109.out 0; have hfz9_1 := blk_frozen BK109.out 1) | ((with_reducible refine gate_callee (f := 91) rfl ?_); refine goesL_ (some 15) rfl rfl Tryz.func91 (by kernel_rfl) rfl #[.agg #[.int .i64 ((rd_T74 l0 x10_1).f0), .bool ((rd_T74 l0 x10_1).f1)]] rfl (by (try simp only [mA, mC, mN]); first | done | rfl) ?_; (with_reducible refine (impl_Tone_valid.calls ((rd_T74 l0 x10_1).f0) ((rd_T74 l0 x10_1).f1) true _ A6.out).mono ?_); rintro e w10 ⟨rfl, hb⟩; refine ⟨_, rfl, ?_⟩; have n0_ := am (blk_below (g := gb109) (o := .cells #[.int .i64 ((rd_T74 l0 x10_1).f0), .bool ((rd_T74 l0 x10_1).f1)] 74 (0, 0)) (by (with_reducible repeat (first | refine blk_drewN ?_ _ | refine blk_drew ?_ | refine blk_alloc ?_ _)); refine blk_put (cs := #[.int .i64 ((rd_T74 l0 x10_1).f0), .bool false]) ?_ 1 _ rfl; (with_reducible repeat (first | refine blk_drewN ?_ _ | refine blk_drew ?_ | refine blk_alloc ?_ _)); refine blk_put (cs := #[.int .i64 0, .bool false]) ?_ 0 _ rfl; (with_reducible repeat (first | refine blk_drewN ?_ _ | refine blk_drew ?_ | refine blk_alloc ?_ _)); exact BK109.out) hb); have n1_ := am (below_step (bu HB.out) hb); clear BK109; clear HB; have BK109 := n0_; have HB := n1_; clear n0_ n1_; (try clear hb); (try clear hb2); (try clear hk); (try clear hi)))
     go_roundg k1
     case measure => have := HK1.out; omega
     case rel => exact ⟨(wrap64 (x10_1 + 1)), (by first | rfl | simp | simp [*]), H', ⟨by have := HK1.out; omega⟩, ⟨bu HB.out⟩⟩
    replace c7 := Bool.eq_false_iff.mpr c7
    subst c7
    have H1 : (some false) = some r := by rw [if_neg (show ¬ (false = true) by decide)] at H; exact H
    clear H
    have H := H1
    clear H1
    obtain rfl := Option.some.inj H
    have p108 : 0 ≤ (x10_1 : Int) := od
    have q108 : x10_1 < (l0.length : Int) := od
    obtain ⟨ad108, e108, hx108_0, hx108_1⟩ := at_T74 HR0.out x10_1 p108 q108
    cases e108
    replace hx108_0 := (HB.out.cell (World.block_lt_of_cell? w _ hx108_0)).trans hx108_0
    replace hx108_1 := (HB.out.cell (World.block_lt_of_cell? w _ hx108_1)).trans hx108_1
    replace p108 := eq_true p108
    replace q108 := eq_true q108
    go_wp2_with (first | ((with_reducible refine gate_dst (N := 4) rfl ?_); refine box_event ?hg (N := 4) ?hd (cs := #[.int .i64 0, .bool false]) (t := 74) ?hr ?_; (case hd => rfl); (case hg => rfl); (case hr => first | (go_simp; done) | (go_simp; rfl)); intro gb109 hg w11 hbox hb; have n0_ := am (below_step (bu HB.out) hb); have n1_ := am (hbox); have n2_ := am ((by rw [hg]; exact (below_size (bu HB.out)) : w.heap.size ≤ gb109)); have n3_ := am ((by rw [hg]; exact (below_size (bu HB.out)) : w.heap.size ≤ gb109)); clear HB; have HB := n0_; have BK109 := n1_; have GW109 := n2_; have GE109 := n3_; clear n0_ n1_ n2_ n3_; clear hb hbox hg; have hcz12_0 : w11.cell? ⟨gb109, 0, none⟩ = some (.int .i64 0) := (blk_cell BK109.out 0).trans rfl; have hcz12_1 : w11.cell? ⟨gb109, 1, none⟩ = some (.bool false) := (blk_cell BK109.out 1).trans rfl; have hfz12_0 := blk_frozen BK109.out 0; have hfz12_1 := blk_frozen BK109.out 1) | ((with_reducible refine gate_callee (f := 91) rfl ?_); refine goesL_ (some 15) rfl rfl Tryz.func91 (by kernel_rfl) rfl #[.agg #[.int .i64 ((rd_T74 l0 x10_1).f0), .bool ((rd_T74 l0 x10_1).f1)]] rfl (by (try simp only [mA, mC, mN]); first | done | rfl) ?_; (with_reducible refine (impl_Tone_valid.calls ((rd_T74 l0 x10_1).f0) ((rd_T74 l0 x10_1).f1) false _ A6.out).mono ?_); rintro e w13 ⟨rfl, hb⟩; refine ⟨_, rfl, ?_⟩; have n0_ := am (blk_below (g := gb109) (o := .cells #[.int .i64 ((rd_T74 l0 x10_1).f0), .bool ((rd_T74 l0 x10_1).f1)] 74 (0, 0)) (by (with_reducible repeat (first | refine blk_drewN ?_ _ | refine blk_drew ?_ | refine blk_alloc ?_ _)); refine blk_put (cs := #[.int .i64 ((rd_T74 l0 x10_1).f0), .bool false]) ?_ 1 _ rfl; (with_reducible repeat (first | refine blk_drewN ?_ _ | refine blk_drew ?_ | refine blk_alloc ?_ _)); refine blk_put (cs := #[.int .i64 0, .bool false]) ?_ 0 _ rfl; (with_reducible repeat (first | refine blk_drewN ?_ _ | refine blk_drew ?_ | refine blk_alloc ?_ _)); exact BK109.out) hb); have n1_ := am (below_step (bu HB.out) hb); clear BK109; clear HB; have BK109 := n0_; have HB := n1_; clear n0_ n1_; (try clear hb); (try clear hb2); (try clear hk); (try clear hi)))
    go_ret
    exact ⟨by first | rfl | (simp [*] <;> rfl), bu HB.out⟩
   rw [if_neg c3] at H
   have c3b0 : decide (x10_1 < (l0.length : Int)) = false := decide_eq_false c3
   clear c3
   obtain rfl := Option.some.inj H
   go_wp2
   go_ret
   exact ⟨by first | rfl | (simp [*] <;> rfl), bu HB.out⟩

/-- A linked melody. -/
def IsList (w : World) : Option Addr → List S74 → Prop
 | p, [] => p = none
 | p, t :: ts => ∃ (g : Nat) (q : Option Addr), p = some ⟨g, 0, none⟩ ∧ w.heap[g]? = some (.cells #[.int .i64 t.f0, .bool t.f1, .pointer q] 84 (0, 0)) ∧ IsList w q ts
theorem IsList.below {w w1 : World} (hb : Below w.heap.size w w1) : ∀ {ts : List S74} {p : Option Addr}, IsList w p ts → IsList w1 p ts
 | [], _, h => h
 | t :: ts, p, h => by
  obtain ⟨g, q, rfl, hg, hr⟩ := h
  refine ⟨g, q, rfl, ?_, IsList.below hb hr⟩
  have hlt : g < w.heap.size := (Array.getElem?_eq_some_iff.1 hg).1
  rw [hb.block g hlt]
  exact hg
theorem rdLk_at (l : List S74) (i : Nat) (h : i < l.length) : rd_T74 l (i : Int) = l[i] := by
 simp [rd_T74, List.getD_eq_getElem?_getD, h]
theorem linked_any (A0 : Option Addr) (c0 : Nat) (l0 : List S74) (w : World) (hr0 : Kd.C k74 w A0 l0.length l0) (hc0 : l0.length ≤ c0) (hl : l0.length ≤ 100) :
  Calls Tryz.prog 61 #[.slice A0 l0.length c0] w fun e w' => ∃ p, e = .returned (.pointer p) ∧ IsList w' p l0 ∧ Below w.heap.size w w' := by
 have hu1 := Tryz.underlying84
 have hu2 := Tryz.underlying74
 have HR0 := am hr0
 have HC0 := am hc0
 clear hr0 hc0
 go_enter Tryz.func61, Tryz.ntmps61
 go_wp2_with fail
 go_loopg [3, 4] l0.length (fun kq v3 v4 w' => ∃ (i : Nat) (p : Option Addr), v4 = .int .i64 ((i : Int) - 1) ∧ v3 = .pointer p ∧ Aside0 (i ≤ l0.length ∧ kq = i) ∧ Aside0 (IsList w' p (l0.drop i)) ∧ Aside0 (Below w.heap.size w w'))
 case atStart => exact ⟨l0.length, none, rfl, rfl, ⟨Nat.le_refl _, rfl⟩, ⟨by rw [List.drop_eq_nil_of_le (Nat.le_refl _)]; rfl⟩, ⟨Below.refl _ _⟩⟩
 case round =>
  obtain ⟨i, p, rfl, rfl, HI, HL, HB⟩ := hrel
  by_cases h0 : i = 0
  ·subst h0
   go_wp2
   go_ret
   exact ⟨p, rfl, HL.out, HB.out⟩
  obtain ⟨j, rfl⟩ : ∃ j, i = j + 1 := ⟨i - 1, by omega⟩
  have hlt : j < l0.length := by have := HI.out.1; omega
  have ej : ((j + 1 : Nat) : Int) - 1 = (j : Int) := by omega
  rw [ej]
  obtain ⟨ad, e1, hx0, hx1⟩ := at_T74 (Kd.C_below HR0.out HB.out) (j : Int) (by omega) (by omega)
  cases e1
  simp only [Int.toNat_natCast] at hx0 hx1
  rw [rdLk_at l0 j hlt] at hx0 hx1
  go_wp2
  go_roundg j
  case measure => have := HI.out; omega
  case rel =>
   refine ⟨j, some ⟨wr.heap.size, 0, none⟩, rfl, rfl, ⟨by have := HI.out.1; omega, rfl⟩, ⟨?_⟩, ⟨below_alloc HB.out _⟩⟩
   rw [List.drop_eq_getElem_cons hlt]
   exact ⟨wr.heap.size, p, rfl, blk_new _ _, IsList.below (below_alloc (Below.refl _ _) _) HL.out⟩


-- INNER impl_linked
/-! ### MelodyText, by hand -/
theorem infoMS : (Tryz.prog.info? 9).map (fun i => (i.zero, i.size, i.bytes)) = some (some (.string ⟨#[]⟩), 1, 16) := by kernel_rfl
def ttx (t : S74) : ByteArray := (impl_Tone_text.f t.f0 t.f1).getD ⟨#[]⟩
def mjoin (xs : List ByteArray) : ByteArray := ⟨(Lib.join (xs.map (·.data.toList)) [32]).toArray⟩
def impl_MelodyText.f (n : Nat) (l0 : List S74) : Option ByteArray := (impl_MelodyValid.f n l0).bind fun ok => some (if ok = true then mjoin (l0.map ttx) else ⟨#[]⟩)
theorem impl_MelodyText.mono : ∀ a0 n, LeO (impl_MelodyText.f n a0) (impl_MelodyText.f (n + 1) a0) := by
 intro a0 n
 unfold impl_MelodyText.f
 exact LeO.bind (impl_MelodyValid.mono _ _) (fun _ => LeO.refl _)
theorem text_all : ∀ m, m < 21 → ∀ b : Bool, (impl_Tone_text.f ((m : Nat) : Int) b).isSome = true ∧ ((impl_Tone_text.f ((m : Nat) : Int) b).getD ⟨#[]⟩).size ≤ 3 := by decide +kernel
theorem text_some {a : Int} {b : Bool} (h0 : 0 ≤ a) (h1 : a ≤ 20) : impl_Tone_text.f a b = some ((impl_Tone_text.f a b).getD ⟨#[]⟩) ∧ ((impl_Tone_text.f a b).getD ⟨#[]⟩).size ≤ 3 := by
 obtain ⟨m, rfl⟩ := Int.eq_ofNat_of_zero_le h0
 obtain ⟨h2, h3⟩ := text_all m (by omega) b
 obtain ⟨v, hv⟩ := Option.isSome_iff_exists.1 h2
 exact ⟨by rw [hv]; rfl, h3⟩
theorem rdMt_at (l : List S74) (i : Nat) (h : i < l.length) : rd_T74 l (i : Int) = l[i] := by
 simp [rd_T74, List.getD_eq_getElem?_getD, h]
theorem mv_tone {s : Int} {b : Bool} (h : impl_Tone_valid.f s b = some true) : 0 ≤ s ∧ s ≤ 20 := by
 unfold impl_Tone_valid.f at h
 by_cases h0 : 0 ≤ s
 ·by_cases h1 : s ≤ 20
  ·exact ⟨h0, h1⟩
  ·simp [h0, h1] at h
 ·simp [h0] at h
theorem mv_l0 : ∀ (k : Nat) (l : List S74) (i : Nat), i ≤ l.length → l.length ≤ 24 → impl_MelodyValid.l0 k l (l.length : Int) (i : Int) = some true → ∀ j (h0 : j < l.length), i ≤ j → 0 ≤ l[j].f0 ∧ l[j].f0 ≤ 20 := by
 intro k
 induction k with
 | zero => intro l i hi hl h; simp [impl_MelodyValid.l0] at h
 | succ k ih =>
  intro l i hi hl h j h0 hij
  have hlt : i < l.length := by omega
  simp only [impl_MelodyValid.l0] at h
  rw [if_pos (by omega), if_pos (by omega), if_pos (by omega), rdMt_at l i hlt] at h
  obtain ⟨v, hv, h⟩ := Option.bind_eq_some_iff.mp h
  cases v with
  | false => rw [if_neg (by decide)] at h; exact absurd h (by simp)
  | true =>
   rw [if_pos rfl, show wrap64 ((i : Int) + 1) = ((i + 1 : Nat) : Int) by unfold wrap64; omega] at h
   by_cases e : j = i
   ·subst e
    exact mv_tone hv
   ·exact ih l (i + 1) (by omega) hl h j h0 (by omega)
theorem mv_facts {k : Nat} {l : List S74} (h : impl_MelodyValid.f k l = some true) : l.length ≤ 24 ∧ ∀ t ∈ l, 0 ≤ t.f0 ∧ t.f0 ≤ 20 := by
 unfold impl_MelodyValid.f at h
 by_cases hl : (l.length : Int) > 24
 ·rw [if_pos hl] at h
  exact absurd h (by simp)
 rw [if_neg hl] at h
 refine ⟨by omega, fun t ht => ?_⟩
 obtain ⟨j, hj, rfl⟩ := List.getElem_of_mem ht
 exact mv_l0 k l 0 (Nat.zero_le _) (by omega) h j hj (Nat.zero_le _)
theorem mt_lens : ∀ (xs : List (List UInt8)), (∀ x ∈ xs, x.length ≤ 3) → Lib.lens xs ≤ 3 * xs.length
 | [], _ => by simp [Lib.lens]
 | x :: xs, h => by
  have ih := mt_lens xs (fun z hz => h z (List.mem_cons_of_mem _ hz))
  have := h x (List.mem_cons_self ..)
  simp only [Lib.lens, List.map_cons, List.sum_cons, List.length_cons] at ih ⊢
  omega
theorem mt_join (xs : List (List UInt8)) (h : ∀ x ∈ xs, x.length ≤ 3) : (Lib.join xs [32]).length ≤ 4 * xs.length := by
 cases xs with
 | nil => simp [Lib.join_nil]
 | cons x r =>
  have h1 := h x (List.mem_cons_self ..)
  have h2 := mt_lens r (fun z hz => h z (List.mem_cons_of_mem _ hz))
  rw [Lib.join_cons, List.length_append, Lib.joinTail_length, List.length_cons, List.length_cons, List.length_nil]
  omega
theorem mt_small (l : List S74) (h : ∀ t ∈ l, 0 ≤ t.f0 ∧ t.f0 ≤ 20) : (Lib.join ((l.map ttx).map (·.data.toList)) [32]).length ≤ 4 * l.length := by
 have := mt_join ((l.map ttx).map (·.data.toList)) (by
  intro x hx
  obtain ⟨b, hb, rfl⟩ := List.mem_map.1 hx
  obtain ⟨t, ht, rfl⟩ := List.mem_map.1 hb
  exact (text_some (h t ht).1 (h t ht).2).2)
 rw [List.length_map, List.length_map] at this
 exact this
theorem mt_strs {w : World} {g n : Nat} {xs : List ByteArray} (h : Kd.string.C w (some ⟨g, 0, none⟩) n xs) (hn : n = xs.length) (j : Nat) (x : ByteArray) (hx : xs[j]? = some x) : w.cell? ⟨g, 0 + j, none⟩ = some (.string x) := by
 obtain ⟨hj, rfl⟩ := List.getElem?_eq_some_iff.1 hx
 obtain ⟨ad, e, hc⟩ := Kd.at_string h (j : Int) (by omega) (by omega)
 obtain rfl : (⟨g, 0, none⟩ : Addr) = ad := by injection e
 rw [Int.toNat_natCast] at hc
 rw [Nat.zero_add, ← add_plain, hc]
 simp [rdOf, List.getD_eq_getElem?_getD, hj]
theorem mt_empty {α : Type} (d : Kd α) (e : Nat) {W : World} {g base : Nat} (ok : Nat → Prop) (hok : ok g) (h : W.heap[g]? = some (.cells #[] e (0, 0))) (hb : base ≤ g) : d.R e W base ok (.slice (some ⟨g, 0, none⟩) 0 0) ([] : List α) :=
 ⟨fun k hk => by
  simp [Value.ownBlock] at hk
  subst hk
  exact hok, [], ⟨by simp, .inr ⟨g, 0, #[], rfl, hb, h, Nat.le_refl _, by simp [maxLen], by simp, by simp⟩⟩, Reps.none _ _⟩
theorem mt_grown {w w1 : World} {base : Nat} {ok : Nat → Prop} {v : Value} {xs : List ByteArray} (HO : Kd.R Kd.string 9 w base ok v xs) (hg : w.grownBy w1 v.ownBlock) : ∀ {ts : List S74} {p : Option Addr}, IsList w p ts → IsList w1 p ts
 | [], _, h => h
 | t :: ts, p, h => by
  obtain ⟨g, q, rfl, hk, hr⟩ := h
  exact ⟨g, q, rfl, blk_grown hk hg (Kd.R_ne HO hk (by decide)), mt_grown HO hg hr⟩
theorem melText_yes (n : Nat) (A0 : Option Addr) (c0 : Nat) (l0 : List S74) (w : World) (hr0 : Kd.C k74 w A0 l0.length l0) (hc0 : l0.length ≤ c0) (hTL : TabL w) (h : impl_MelodyValid.f n l0 = some true) :
  Calls Tryz.prog 26 #[.slice A0 l0.length c0] w fun e w' => e = .returned (.string (mjoin (l0.map ttx))) ∧ Below w.heap.size w w' := by
 obtain ⟨hl, hf⟩ := mv_facts h
 have hu1 := Tryz.underlying84
 have hu2 := Tryz.underlying74
 have HR0 := am hr0
 have HC0 := am hc0
 have HTL := am hTL
 have H := am h
 have HF := am hf
 clear hr0 hc0 hTL h hf
 go_enter Tryz.func26, Tryz.ntmps26
 go_wp2_with fail
 refine (impl_MelodyValid.calls n A0 c0 l0 true _ HR0.out HC0.out H.out).mono ?_
 rintro e w1 ⟨rfl, hb⟩
 have HB1 := am hb
 have HS1 := am hb.size
 clear hb
 go_wp2_with fail
 have HZ1 := am (blk_new w1 (.cells #[] 9))
 have HB2 := am (below_alloc HB1.out (.cells #[] 9))
 refine (linked_any A0 c0 l0 _ (Kd.C_below HR0.out HB2.out) HC0.out (by omega)).mono ?_
 rintro e w2 ⟨p, rfl, hL, hb⟩
 have HB3 := am (below_step HB2.out hb)
 have HL1 := am hL
 have HZ2 := am (blk_below HZ1.out hb)
 clear hb hL HB1 HB2 HZ1
 go_wp2_with fail
 go_loopg [3, 4] l0.length (fun kq v3 v4 w' => ∃ (i : Nat) (p : Option Addr), v4 = .pointer p ∧ Aside0 (i ≤ l0.length ∧ kq = l0.length - i) ∧ Aside0 (IsList w' p (l0.drop i)) ∧ Aside0 (Kd.R Kd.string 9 w' w.heap.size (fun _ => True) v3 ((l0.take i).map ttx)) ∧ Aside0 (Below w.heap.size w w'))
 case atStart => exact ⟨0, p, rfl, ⟨by omega, by omega⟩, ⟨by simpa using HL1.out⟩, ⟨mt_empty _ _ _ trivial HZ2.out HS1.out⟩, HB3⟩
 case round =>
  obtain ⟨i, q, rfl, HI, HL, HO, HB⟩ := hrel
  clear HZ2 HL1 HB3
  by_cases hin : i < l0.length
  ·obtain ⟨t, ht⟩ : ∃ t, t = l0[i] := ⟨_, rfl⟩
   have hL := HL.out
   rw [List.drop_eq_getElem_cons hin, ← ht] at hL
   obtain ⟨g, q', rfl, hg, hR⟩ := hL
   have HT := am (HF.out t (by rw [ht]; exact List.getElem_mem hin))
   have HTT := am (text_some (b := t.f1) HT.out.1 HT.out.2).1
   have HSN := am (show (l0.take (i + 1)).map ttx = (l0.take i).map ttx ++ [ttx t] by rw [List.take_succ_eq_append_getElem hin, List.map_append, ← ht]; rfl)
   have HG0 := am hg
   have HLR := am hR
   have k0 : wr.cell? ⟨g, 0, none⟩ = some (.int .i64 t.f0) := blk_cell hg 0
   have k1 : wr.cell? ⟨g, 1, none⟩ = some (.bool t.f1) := blk_cell hg 1
   obtain ⟨tx, htx⟩ : ∃ tx, tx = ttx t := ⟨_, rfl⟩
   have HTX := am (show impl_Tone_text.f t.f0 t.f1 = some tx by rw [htx]; exact HTT.out)
   rw [← htx] at HSN
   obtain ⟨xs, hxs⟩ : ∃ xs, xs = (l0.take i).map ttx := ⟨_, rfl⟩
   have HXL := am (show xs.length ≤ 24 by rw [hxs, List.length_map, List.length_take]; omega)
   rw [← hxs] at HSN HO
   clear ht hg hR htx hxs HTT HL
   go_wp2_with fail
   refine (impl_Tone_text.calls t.f0 t.f1 tx _ (TabAt.below HTL.out HB.out) HTX.out).mono ?_
   rintro e w5 ⟨rfl, hb⟩
   have HG5 := am (blk_below HG0.out hb)
   have HLR5 := am (IsList.below hb HLR.out)
   have HO5 := am (Kd.R_below HO.out hb)
   have HB5 := am (below_step HB.out hb)
   clear hb HO HB HLR HG0 k0 k1
   go_wp2_with ((with_reducible refine gate_builtin (b := .append) (xs := #[.tmp 17, .tmp 23]) rfl ?_); at_builtin; refine Kd.R_append Kd.string (w0 := w) w.heap.size rfl (.tmp 17) (.tmp 23) 63 9 (.string ⟨#[]⟩) 16 rfl Tryz.underlying63 infoMS rfl (by decide) (by omega) u3 xs tx [.string tx] (fun _ => True) (fun _ => False) rfl rfl ?aP (fun _ hk => hk.elim) ?aF ?aO ?aB ?aS ?aL ?_; (case aP => exact rfl); (case aF => exact (fun _ _ => trivial)); (case aO => exact HO5.out); (case aB => exact HB5.out); (case aS => exact (below_size HB5.out)); (case aL => have := HXL.out; omega); intro v1 w6 ho hb hg hat; have n0 : w6.cell? ⟨g, 2, none⟩ = some (.pointer q') := blk_cell (blk_grown HG5.out hg (Kd.R_ne HO5.out HG5.out (by decide))) 2; have HO6 := am ho; have HB6 := am hb; have HL6 := am (mt_grown HO5.out hg HLR5.out); clear ho hb hg hat)
   go_roundg (l0.length - (i + 1))
   case measure => have := HI.out; omega
   case rel => exact ⟨i + 1, q', rfl, ⟨by omega, rfl⟩, HL6, ⟨by rw [HSN.out]; exact HO6.out⟩, HB6⟩
  have ei : i = l0.length := by have := HI.out; omega
  subst ei
  have hL := HL.out
  rw [List.drop_eq_nil_of_le (Nat.le_refl _)] at hL
  obtain rfl : q = none := hL
  have ho := HO.out
  rw [List.take_of_length_le (Nat.le_refl _)] at ho
  by_cases hz : l0.length = 0
  ·obtain ⟨A5, c5, rfl⟩ := Kd.R_slice ho
   obtain rfl : l0 = [] := List.eq_nil_of_length_eq_zero hz
   clear ho
   go_wp2_with fail
   refine (Tryz.strings_Join_none A5 c5 ⟨#[32]⟩ _).mono ?_
   rintro e w9 ⟨rfl, rfl⟩
   go_wp2_with fail
   go_ret
   exact ⟨rfl, HB.out⟩
  obtain ⟨g5, c5, rfl, _, hg5, _⟩ := Kd.R_form ho (by rw [List.length_map]; omega)
  have HG9 := am hg5
  have HC9 := am (Kd.R_reads' ho)
  have HSM := am (mt_small l0 HF.out)
  clear ho hg5
  obtain ⟨xs, hxs⟩ : ∃ xs, xs = l0.map ttx := ⟨_, rfl⟩
  have HXL := am (show xs.length = l0.length by rw [hxs, List.length_map])
  rw [← hxs] at HC9 HSM ⊢
  have HXS := am hxs
  clear hxs
  go_wp2_with fail
  refine (Tryz.strings_Join g5 0 c5 xs ⟨#[32]⟩ _ (fun j x hx => mt_strs HC9.out.2.2 rfl j x hx) HG9.out (by have := HXL.out; omega) HC9.out.2.1 (by have := HSM.out; exact Nat.le_trans this (by omega))).mono ?_
  rintro e w9 ⟨rfl, hb9⟩
  have HB9 := am (below_step HB.out hb9)
  clear hb9
  go_wp2_with fail
  go_ret
  exact ⟨by rw [← HXS.out]; rfl, HB9.out⟩
theorem impl_MelodyText.calls (n : Nat) (A0 : Option Addr) (c0 : Nat) (l0 : List S74) (r : ByteArray) (w : World) (hr0 : Kd.C k74 w A0 l0.length l0) (hc0 : l0.length ≤ c0) (hTL : TabL w) (h : impl_MelodyText.f n l0 = some r) :
  Calls Tryz.prog 26 #[.slice A0 l0.length c0] w fun e w' => e = .returned (.string r) ∧ Below w.heap.size w w' := by
 unfold impl_MelodyText.f at h
 obtain ⟨b, hb, h⟩ := Option.bind_eq_some_iff.mp h
 have h := Option.some.inj h
 cases b with
 | true =>
  rw [if_pos rfl] at h
  rw [← h]
  exact melText_yes n A0 c0 l0 w hr0 hc0 hTL hb
 | false =>
  rw [if_neg (by decide)] at h
  rw [← h]
  clear h
  have HR0 := am hr0
  have HC0 := am hc0
  have H := am hb
  clear hr0 hc0 hb hTL
  go_enter Tryz.func26, Tryz.ntmps26
  go_wp2_with fail
  refine (impl_MelodyValid.calls n A0 c0 l0 false _ HR0.out HC0.out H.out).mono ?_
  rintro e w1 ⟨rfl, hb⟩
  have HB1 := am hb
  clear hb
  go_wp2_with fail
  go_ret
  exact ⟨rfl, HB1.out⟩


-- INNER impl_differences
/-! ### impl_ToneSteps: function 74 -/
def impl_ToneSteps.f (a0_0 : Int) (a0_1 : Bool) (a1_0 : Int) (a1_1 : Bool) : Option (Int × Bool) := (impl_Tone_valid.f a0_0 a0_1).bind fun t113 => (if t113 = true then ((impl_Tone_valid.f a1_0 a1_1).bind fun t114 => (if t114 = true then (some (wrap64 (a1_0 - a0_0), true)) else (some (0, false)))) else (some (0, false)))
theorem impl_ToneSteps.calls (a0_0 : Int) (a0_1 : Bool) (a1_0 : Int) (a1_1 : Bool) (r1 : Int) (r2 : Bool) (w : World) (h : impl_ToneSteps.f a0_0 a0_1 a1_0 a1_1 = some (r1, r2)) :
  Calls Tryz.prog 74 #[.agg #[.int .i64 a0_0, .bool a0_1], .agg #[.int .i64 a1_0, .bool a1_1]] w fun e w' => e = .returned (.tuple #[.int .i64 r1, .bool r2]) ∧ Below w.heap.size w w' := by
 have hu74 := Tryz.underlying74
 have HB := am (Below.refl w.heap.size w)
 have H : ((impl_Tone_valid.f a0_0 a0_1).bind fun t113 => (if t113 = true then ((impl_Tone_valid.f a1_0 a1_1).bind fun t114 => (if t114 = true then (some (wrap64 (a1_0 - a0_0), true)) else (some (0, false)))) else (some (0, false)))) = some (r1, r2) := h
 clear h
 replace H := Option.bind_eq_some_iff.mp H
 obtain ⟨t113, A30, H⟩ := H
 replace H : (if t113 = true then ((impl_Tone_valid.f a1_0 a1_1).bind fun t114 => (if t114 = true then (some (wrap64 (a1_0 - a0_0), true)) else (some (0, false)))) else (some (0, false))) = some (r1, r2) := H
 have A3 := am A30
 clear A30
 by_cases c4 : t113 = true
 ·subst c4
  have H1 : ((impl_Tone_valid.f a1_0 a1_1).bind fun t114 => (if t114 = true then (some (wrap64 (a1_0 - a0_0), true)) else (some (0, false)))) = some (r1, r2) := by rw [if_pos rfl] at H; exact H
  clear H
  have H := H1
  clear H1
  replace H := Option.bind_eq_some_iff.mp H
  obtain ⟨t114, A50, H⟩ := H
  replace H : (if t114 = true then (some (wrap64 (a1_0 - a0_0), true)) else (some (0, false))) = some (r1, r2) := H
  have A5 := am A50
  clear A50
  by_cases c6 : t114 = true
  ·subst c6
   have H1 : (some (wrap64 (a1_0 - a0_0), true)) = some (r1, r2) := by rw [if_pos rfl] at H; exact H
   clear H
   have H := H1
   clear H1
   simp only [Option.some.injEq, Prod.mk.injEq] at H
   obtain ⟨rfl, rfl⟩ := H
   go_enter Tryz.func74, Tryz.ntmps74
   go_wp2_with (first | ((with_reducible refine gate_dst (N := 2) rfl ?_); refine box_event ?hg (N := 2) ?hd (cs := #[.int .i64 a0_0, .bool a0_1]) (t := 74) ?hr ?_; (case hd => rfl); (case hg => rfl); (case hr => first | (go_simp; done) | (go_simp; rfl)); intro gb111 hg w7 hbox hb; have n0_ := am (below_step (bu HB.out) hb); have n1_ := am (hbox); have n2_ := am ((by rw [hg]; exact (below_size (bu HB.out)) : w.heap.size ≤ gb111)); have n3_ := am ((by rw [hg]; exact (below_size (bu HB.out)) : w.heap.size ≤ gb111)); clear HB; have HB := n0_; have BK111 := n1_; have GW111 := n2_; have GE111 := n3_; clear n0_ n1_ n2_ n3_; clear hb hbox hg) | ((with_reducible refine gate_dst (N := 3) rfl ?_); refine box_event ?hg (N := 3) ?hd (cs := #[.int .i64 a1_0, .bool a1_1]) (t := 74) ?hr ?_; (case hd => rfl); (case hg => rfl); (case hr => first | (go_simp; done) | (go_simp; rfl)); intro gb112 hg w8 hbox hb; have n0_ := am (blk_below (g := gb111) (o := .cells #[.int .i64 a0_0, .bool a0_1] 74 (0, 0)) (gu BK111.out) hb); have n1_ := am (below_step (bu HB.out) hb); have n2_ := am (hbox); have n3_ := am ((by rw [hg]; exact (below_size (bu HB.out)) : w.heap.size ≤ gb112)); have n4_ := am ((by rw [hg]; exact (below_size (bu HB.out)) : w.heap.size ≤ gb112)); have n5_ := am ((by rw [hg]; exact Nat.ne_of_lt (blk_lt (g := gb111) (o := .cells #[.int .i64 a0_0, .bool a0_1] 74 (0, 0)) (gu BK111.out)) : gb111 ≠ gb112)); have n6_ := am ((by rw [hg]; exact Nat.ne_of_gt (blk_lt (g := gb111) (o := .cells #[.int .i64 a0_0, .bool a0_1] 74 (0, 0)) (gu BK111.out)) : gb112 ≠ gb111)); clear BK111; clear HB; have BK111 := n0_; have HB := n1_; have BK112 := n2_; have GW112 := n3_; have GE112 := n4_; have NB111_112 := n5_; have NB112_111 := n6_; clear n0_ n1_ n2_ n3_ n4_ n5_ n6_; clear hb hbox hg; have hnb9 := NB111_112.out; have hnc9 := NB112_111.out; have hcz10_0 : w8.cell? ⟨gb111, 0, none⟩ = some (.int .i64 a0_0) := (blk_cell BK111.out 0).trans rfl; have hcz10_1 : w8.cell? ⟨gb111, 1, none⟩ = some (.bool a0_1) := (blk_cell BK111.out 1).trans rfl; have hfz10_0 := blk_frozen BK111.out 0; have hfz10_1 := blk_frozen BK111.out 1) | ((with_reducible refine gate_callee (f := 91) rfl ?_); refine goesL_ (some 7) rfl rfl Tryz.func91 (by kernel_rfl) rfl #[.agg #[.int .i64 a0_0, .bool a0_1]] rfl (by (try simp only [mA, mC, mN]); first | done | rfl) ?_; (with_reducible refine (impl_Tone_valid.calls a0_0 a0_1 true _ A3.out).mono ?_); rintro e w11 ⟨rfl, hb⟩; refine ⟨_, rfl, ?_⟩; have n0_ := am (blk_below (g := gb111) (o := .cells #[.int .i64 a0_0, .bool a0_1] 74 (0, 0)) (gu BK111.out) hb); have n1_ := am (blk_below (g := gb112) (o := .cells #[.int .i64 a1_0, .bool a1_1] 74 (0, 0)) (gu BK112.out) hb); have n2_ := am (below_step (bu HB.out) hb); clear BK111; clear BK112; clear HB; have BK111 := n0_; have BK112 := n1_; have HB := n2_; clear n0_ n1_ n2_; (try clear hb); (try clear hb2); (try clear hk); (try clear hi); have hcz12_0 : w11.cell? ⟨gb112, 0, none⟩ = some (.int .i64 a1_0) := (blk_cell BK112.out 0).trans rfl; have hcz12_1 : w11.cell? ⟨gb112, 1, none⟩ = some (.bool a1_1) := (blk_cell BK112.out 1).trans rfl; have hfz12_0 := blk_frozen BK112.out 0; have hfz12_1 := blk_frozen BK112.out 1) | (go_at_call 91; (with_reducible refine (impl_Tone_valid.calls a1_0 a1_1 true _ A5.out).mono ?_); rintro e w13 ⟨rfl, hb⟩; have n0_ := am (blk_below (g := gb111) (o := .cells #[.int .i64 a0_0, .bool a0_1] 74 (0, 0)) (gu BK111.out) hb); have n1_ := am (blk_below (g := gb112) (o := .cells #[.int .i64 a1_0, .bool a1_1] 74 (0, 0)) (gu BK112.out) hb); have n2_ := am (below_step (bu HB.out) hb); clear BK111; clear BK112; clear HB; have BK111 := n0_; have BK112 := n1_; have HB := n2_; clear n0_ n1_ n2_; (try clear hb); (try clear hb2); (try clear hk); (try clear hi); have hcz14_0 : w13.cell? ⟨gb112, 0, none⟩ = some (.int .i64 a1_0) := (blk_cell BK112.out 0).trans rfl; have hcz14_1 : w13.cell? ⟨gb112, 1, none⟩ = some (.bool a1_1) := (blk_cell BK112.out 1).trans rfl; have hfz14_0 := blk_frozen BK112.out 0; have hfz14_1 := blk_frozen BK112.out 1; have hcz15_0 : w13.cell? ⟨gb111, 0, none⟩ = some (.int .i64 a0_0) := (blk_cell BK111.out 0).trans rfl; have hcz15_1 : w13.cell? ⟨gb111, 1, none⟩ = some (.bool a0_1) := (blk_cell BK111.out 1).trans rfl; have hfz15_0 := blk_frozen BK111.out 0; have hfz15_1 := blk_frozen BK111.out 1))
   go_ret2
   exact ⟨by first | rfl | (simp [*] <;> rfl), bu HB.out⟩
  replace c6 := Bool.eq_false_iff.mpr c6
  subst c6
  have H1 : (some (0, false)) = some (r1, r2) := by rw [if_neg (show ¬ (false = true) by decide)] at H; exact H
  clear H
  have H := H1
  clear H1
  simp only [Option.some.injEq, Prod.mk.injEq] at H
  obtain ⟨rfl, rfl⟩ := H
  go_enter Tryz.func74, Tryz.ntmps74
  go_wp2_with (first | ((with_reducible refine gate_dst (N := 2) rfl ?_); refine box_event ?hg (N := 2) ?hd (cs := #[.int .i64 a0_0, .bool a0_1]) (t := 74) ?hr ?_; (case hd => rfl); (case hg => rfl); (case hr => first | (go_simp; done) | (go_simp; rfl)); intro gb111 hg w16 hbox hb; have n0_ := am (below_step (bu HB.out) hb); have n1_ := am (hbox); have n2_ := am ((by rw [hg]; exact (below_size (bu HB.out)) : w.heap.size ≤ gb111)); have n3_ := am ((by rw [hg]; exact (below_size (bu HB.out)) : w.heap.size ≤ gb111)); clear HB; have HB := n0_; have BK111 := n1_; have GW111 := n2_; have GE111 := n3_; clear n0_ n1_ n2_ n3_; clear hb hbox hg) | ((with_reducible refine gate_dst (N := 3) rfl ?_); refine box_event ?hg (N := 3) ?hd (cs := #[.int .i64 a1_0, .bool a1_1]) (t := 74) ?hr ?_; (case hd => rfl); (case hg => rfl); (case hr => first | (go_simp; done) | (go_simp; rfl)); intro gb112 hg w17 hbox hb; have n0_ := am (blk_below (g := gb111) (o := .cells #[.int .i64 a0_0, .bool a0_1] 74 (0, 0)) (gu BK111.out) hb); have n1_ := am (below_step (bu HB.out) hb); have n2_ := am (hbox); have n3_ := am ((by rw [hg]; exact (below_size (bu HB.out)) : w.heap.size ≤ gb112)); have n4_ := am ((by rw [hg]; exact (below_size (bu HB.out)) : w.heap.size ≤ gb112)); have n5_ := am ((by rw [hg]; exact Nat.ne_of_lt (blk_lt (g := gb111) (o := .cells #[.int .i64 a0_0, .bool a0_1] 74 (0, 0)) (gu BK111.out)) : gb111 ≠ gb112)); have n6_ := am ((by rw [hg]; exact Nat.ne_of_gt (blk_lt (g := gb111) (o := .cells #[.int .i64 a0_0, .bool a0_1] 74 (0, 0)) (gu BK111.out)) : gb112 ≠ gb111)); clear BK111; clear HB; have BK111 := n0_; have HB := n1_; have BK112 := n2_; have GW112 := n3_; have GE112 := n4_; have NB111_112 := n5_; have NB112_111 := n6_; clear n0_ n1_ n2_ n3_ n4_ n5_ n6_; clear hb hbox hg; have hnb18 := NB111_112.out; have hnc18 := NB112_111.out; have hcz19_0 : w17.cell? ⟨gb111, 0, none⟩ = some (.int .i64 a0_0) := (blk_cell BK111.out 0).trans rfl; have hcz19_1 : w17.cell? ⟨gb111, 1, none⟩ = some (.bool a0_1) := (blk_cell BK111.out 1).trans rfl; have hfz19_0 := blk_frozen BK111.out 0; have hfz19_1 := blk_frozen BK111.out 1) | ((with_reducible refine gate_callee (f := 91) rfl ?_); refine goesL_ (some 7) rfl rfl Tryz.func91 (by kernel_rfl) rfl #[.agg #[.int .i64 a0_0, .bool a0_1]] rfl (by (try simp only [mA, mC, mN]); first | done | rfl) ?_; (with_reducible refine (impl_Tone_valid.calls a0_0 a0_1 true _ A3.out).mono ?_); rintro e w20 ⟨rfl, hb⟩; refine ⟨_, rfl, ?_⟩; have n0_ := am (blk_below (g := gb111) (o := .cells #[.int .i64 a0_0, .bool a0_1] 74 (0, 0)) (gu BK111.out) hb); have n1_ := am (blk_below (g := gb112) (o := .cells #[.int .i64 a1_0, .bool a1_1] 74 (0, 0)) (gu BK112.out) hb); have n2_ := am (below_step (bu HB.out) hb); clear BK111; clear BK112; clear HB; have BK111 := n0_; have BK112 := n1_; have HB := n2_; clear n0_ n1_ n2_; (try clear hb); (try clear hb2); (try clear hk); (try clear hi); have hcz21_0 : w20.cell? ⟨gb112, 0, none⟩ = some (.int .i64 a1_0) := (blk_cell BK112.out 0).trans rfl; have hcz21_1 : w20.cell? ⟨gb112, 1, none⟩ = some (.bool a1_1) := (blk_cell BK112.out 1).trans rfl; have hfz21_0 := blk_frozen BK112.out 0; have hfz21_1 := blk_frozen BK112.out 1) | (go_at_call 91; (with_reducible refine (impl_Tone_valid.calls a1_0 a1_1 false _ A5.out).mono ?_); rintro e w22 ⟨rfl, hb⟩; have n0_ := am (blk_below (g := gb111) (o := .cells #[.int .i64 a0_0, .bool a0_1] 74 (0, 0)) (gu BK111.out) hb); have n1_ := am (blk_below (g := gb112) (o := .cells #[.int .i64 a1_0, .bool a1_1] 74 (0, 0)) (gu BK112.out) hb); have n2_ := am (below_step (bu HB.out) hb); clear BK111; clear BK112; clear HB; have BK111 := n0_; have BK112 := n1_; have HB := n2_; clear n0_ n1_ n2_; (try clear hb); (try clear hb2); (try clear hk); (try clear hi)))
  go_ret2
  exact ⟨by first | rfl | (simp [*] <;> rfl), bu HB.out⟩
 replace c4 := Bool.eq_false_iff.mpr c4
 subst c4
 have H1 : (some (0, false)) = some (r1, r2) := by rw [if_neg (show ¬ (false = true) by decide)] at H; exact H
 clear H
 have H := H1
 clear H1
 simp only [Option.some.injEq, Prod.mk.injEq] at H
 obtain ⟨rfl, rfl⟩ := H
 go_enter Tryz.func74, Tryz.ntmps74
 go_wp2_with (first | ((with_reducible refine gate_dst (N := 2) rfl ?_); refine box_event ?hg (N := 2) ?hd (cs := #[.int .i64 a0_0, .bool a0_1]) (t := 74) ?hr ?_; (case hd => rfl); (case hg => rfl); (case hr => first | (go_simp; done) | (go_simp; rfl)); intro gb111 hg w23 hbox hb; have n0_ := am (below_step (bu HB.out) hb); have n1_ := am (hbox); have n2_ := am ((by rw [hg]; exact (below_size (bu HB.out)) : w.heap.size ≤ gb111)); have n3_ := am ((by rw [hg]; exact (below_size (bu HB.out)) : w.heap.size ≤ gb111)); clear HB; have HB := n0_; have BK111 := n1_; have GW111 := n2_; have GE111 := n3_; clear n0_ n1_ n2_ n3_; clear hb hbox hg) | ((with_reducible refine gate_dst (N := 3) rfl ?_); refine box_event ?hg (N := 3) ?hd (cs := #[.int .i64 a1_0, .bool a1_1]) (t := 74) ?hr ?_; (case hd => rfl); (case hg => rfl); (case hr => first | (go_simp; done) | (go_simp; rfl)); intro gb112 hg w24 hbox hb; have n0_ := am (blk_below (g := gb111) (o := .cells #[.int .i64 a0_0, .bool a0_1] 74 (0, 0)) (gu BK111.out) hb); have n1_ := am (below_step (bu HB.out) hb); have n2_ := am (hbox); have n3_ := am ((by rw [hg]; exact (below_size (bu HB.out)) : w.heap.size ≤ gb112)); have n4_ := am ((by rw [hg]; exact (below_size (bu HB.out)) : w.heap.size ≤ gb112)); have n5_ := am ((by rw [hg]; exact Nat.ne_of_lt (blk_lt (g := gb111) (o := .cells #[.int .i64 a0_0, .bool a0_1] 74 (0, 0)) (gu BK111.out)) : gb111 ≠ gb112)); have n6_ := am ((by rw [hg]; exact Nat.ne_of_gt (blk_lt (g := gb111) (o := .cells #[.int .i64 a0_0, .bool a0_1] 74 (0, 0)) (gu BK111.out)) : gb112 ≠ gb111)); clear BK111; clear HB; have BK111 := n0_; have HB := n1_; have BK112 := n2_; have GW112 := n3_; have GE112 := n4_; have NB111_112 := n5_; have NB112_111 := n6_; clear n0_ n1_ n2_ n3_ n4_ n5_ n6_; clear hb hbox hg; have hnb25 := NB111_112.out; have hnc25 := NB112_111.out; have hcz26_0 : w24.cell? ⟨gb111, 0, none⟩ = some (.int .i64 a0_0) := (blk_cell BK111.out 0).trans rfl; have hcz26_1 : w24.cell? ⟨gb111, 1, none⟩ = some (.bool a0_1) := (blk_cell BK111.out 1).trans rfl; have hfz26_0 := blk_frozen BK111.out 0; have hfz26_1 := blk_frozen BK111.out 1) | ((with_reducible refine gate_callee (f := 91) rfl ?_); refine goesL_ (some 7) rfl rfl Tryz.func91 (by kernel_rfl) rfl #[.agg #[.int .i64 a0_0, .bool a0_1]] rfl (by (try simp only [mA, mC, mN]); first | done | rfl) ?_; (with_reducible refine (impl_Tone_valid.calls a0_0 a0_1 false _ A3.out).mono ?_); rintro e w27 ⟨rfl, hb⟩; refine ⟨_, rfl, ?_⟩; have n0_ := am (blk_below (g := gb111) (o := .cells #[.int .i64 a0_0, .bool a0_1] 74 (0, 0)) (gu BK111.out) hb); have n1_ := am (blk_below (g := gb112) (o := .cells #[.int .i64 a1_0, .bool a1_1] 74 (0, 0)) (gu BK112.out) hb); have n2_ := am (below_step (bu HB.out) hb); clear BK111; clear BK112; clear HB; have BK111 := n0_; have BK112 := n1_; have HB := n2_; clear n0_ n1_ n2_; (try clear hb); (try clear hb2); (try clear hk); (try clear hi)))
 go_ret2
 exact ⟨by first | rfl | (simp [*] <;> rfl), bu HB.out⟩

/-! ### MelodySteps, by hand -/
theorem goesW_ {P : Program} {ops : Array Oper} {Q : Exit → Act → World → Prop} {oi : Oper} {N : Option Tmp} {a : Act} {w : World} {K : Act → World → Prop} {f : FuncId} {fn : Func} {az : Array Operand} {ts : Array TypeId} (hf : P.funcs[f]? = some fn) (hname : (fn.name == "runtime.NumGoroutine") = false) (hb : fn.body.isSome = true) (s : Tmp) (hv : a.eval (.tmp s) = .func (.func f) #[] #[]) (args : Array Value)
  (hw : Region.wanted oi (yielded ops a.tmps) = true) (hN : oi.dst = N) (hop : oi.op = .call { callee := .value (.tmp s), args := az, argTypes := ts }) (hargs : az.map a.eval = args)
  (h : Calls P f args w fun e w' => ∃ v, e = .returned v ∧ K (a.put N v) w') : if Region.wanted oi (yielded ops a.tmps) = true then Oper.wp P oi a w K Q else K (a.put N undef) w := by
 refine call_ f args hw hN ?_ h
 have he := enters_ hf hname hb args w
 unfold execOp
 simp [hop, resolve, hv, Deferred.ofValue, invoke, hargs, he]
def stepsOf : List S74 → List Int
 | [] => []
 | t :: r => match r with
  | [] => []
  | u :: _ => (u.f0 - t.f0) :: stepsOf r
theorem stepsOf_len : ∀ l : List S74, (stepsOf l).length = l.length - 1
 | [] => rfl
 | [_] => rfl
 | t :: u :: r => by
  rw [stepsOf, List.length_cons, stepsOf_len (u :: r)]
  simp
theorem stepsOf_snoc : ∀ (l : List S74) (t u : S74), stepsOf (l ++ [t] ++ [u]) = stepsOf (l ++ [t]) ++ [u.f0 - t.f0]
 | [], t, u => rfl
 | [x], t, u => rfl
 | x :: y :: r, t, u => by
  have ih := stepsOf_snoc (y :: r) t u
  simp only [List.cons_append] at ih ⊢
  rw [stepsOf, stepsOf, ih, List.cons_append]
theorem ms_rdMt (l : List S74) (i : Nat) (h : i < l.length) : rd_T74 l (i : Int) = l[i] := by
 simp [rd_T74, List.getD_eq_getElem?_getD, h]
theorem ms_l0 : ∀ (k : Nat) (l : List S74) (i : Nat), i ≤ l.length → l.length ≤ 24 → impl_MelodyValid.l0 k l (l.length : Int) (i : Int) = some true → ∀ j (h0 : j < l.length), i ≤ j → impl_Tone_valid.f l[j].f0 l[j].f1 = some true := by
 intro k
 induction k with
 | zero => intro l i hi hl h; simp [impl_MelodyValid.l0] at h
 | succ k ih =>
  intro l i hi hl h j h0 hij
  have hlt : i < l.length := by omega
  simp only [impl_MelodyValid.l0] at h
  rw [if_pos (by omega), if_pos (by omega), if_pos (by omega), ms_rdMt l i hlt] at h
  obtain ⟨v, hv, h⟩ := Option.bind_eq_some_iff.mp h
  cases v with
  | false => rw [if_neg (by decide)] at h; exact absurd h (by simp)
  | true =>
   rw [if_pos rfl, show wrap64 ((i : Int) + 1) = ((i + 1 : Nat) : Int) by unfold wrap64; omega] at h
   by_cases e : j = i
   ·subst e
    exact hv
   ·exact ih l (i + 1) (by omega) hl h j h0 (by omega)
theorem ms_facts {k : Nat} {l : List S74} (h : impl_MelodyValid.f k l = some true) : l.length ≤ 24 ∧ ∀ t ∈ l, impl_Tone_valid.f t.f0 t.f1 = some true := by
 unfold impl_MelodyValid.f at h
 by_cases hl : (l.length : Int) > 24
 ·rw [if_pos hl] at h
  exact absurd h (by simp)
 rw [if_neg hl] at h
 refine ⟨by omega, fun t ht => ?_⟩
 obtain ⟨j, hj, rfl⟩ := List.getElem_of_mem ht
 exact ms_l0 k l 0 (Nat.zero_le _) (by omega) h j hj (Nat.zero_le _)
theorem ms_bd {s : Int} {b : Bool} (h : impl_Tone_valid.f s b = some true) : 0 ≤ s ∧ s ≤ 20 := by
 unfold impl_Tone_valid.f at h
 by_cases h0 : 0 ≤ s
 ·by_cases h1 : s ≤ 20
  ·exact ⟨h0, h1⟩
  ·simp [h0, h1] at h
 ·simp [h0] at h
theorem ms_step {t u : S74} (ht : impl_Tone_valid.f t.f0 t.f1 = some true) (hu : impl_Tone_valid.f u.f0 u.f1 = some true) : impl_ToneSteps.f t.f0 t.f1 u.f0 u.f1 = some (u.f0 - t.f0, true) := by
 have h1 := ms_bd ht
 have h2 := ms_bd hu
 unfold impl_ToneSteps.f
 rw [ht, Option.bind_some, if_pos rfl, hu, Option.bind_some, if_pos rfl, show wrap64 (u.f0 - t.f0) = u.f0 - t.f0 by unfold wrap64; omega]
theorem ms_empty {α : Type} (d : Kd α) (e : Nat) {W : World} {g base : Nat} (ok : Nat → Prop) (hok : ok g) (h : W.heap[g]? = some (.cells #[] e (0, 0))) (hb : base ≤ g) : d.R e W base ok (.slice (some ⟨g, 0, none⟩) 0 0) ([] : List α) :=
 ⟨fun k hk => by
  simp [Value.ownBlock] at hk
  subst hk
  exact hok, [], ⟨by simp, .inr ⟨g, 0, #[], rfl, hb, h, Nat.le_refl _, by simp [maxLen], by simp, by simp⟩⟩, Reps.none _ _⟩
theorem infoSI : (Tryz.prog.info? 3).map (fun i => (i.zero, i.size, i.bytes)) = some (some (.int .i64 0), 1, 8) := by kernel_rfl
theorem IsList.grown_i {w w1 : World} {base : Nat} {ok : Nat → Prop} {v : Value} {xs : List Int} (HO : Kd.R (Kd.int .i64) 3 w base ok v xs) (hg : w.grownBy w1 v.ownBlock) : ∀ {ts : List S74} {p : Option Addr}, IsList w p ts → IsList w1 p ts
 | [], _, h => h
 | t :: ts, p, h => by
  obtain ⟨g, q, rfl, hk, hr⟩ := h
  exact ⟨g, q, rfl, blk_grown hk hg (Kd.R_ne HO hk (by decide)), IsList.grown_i HO hg hr⟩
theorem steps_any (n : Nat) (A0 : Option Addr) (c0 : Nat) (l0 : List S74) (w : World) (hr0 : Kd.C k74 w A0 l0.length l0) (hc0 : l0.length ≤ c0) (hv : impl_MelodyValid.f n l0 = some true) (hne : 0 < l0.length) :
  Calls Tryz.prog 73 #[.slice A0 l0.length c0, .func (.func 74) #[] #[]] w fun e w' => ∃ v0_ : Value, e = .returned v0_ ∧ Kd.R (Kd.int .i64) 3 w' w.heap.size (fun _ => True) v0_ (stepsOf l0) ∧ Below w.heap.size w w' := by
 obtain ⟨hl, hva⟩ := ms_facts hv
 have HR0 := am hr0
 have HC0 := am hc0
 have HV := am hv
 have HVA := am hva
 have HL := am hl
 have HNE := am hne
 have b0 : ((l0.length : Int) == 0) = false := beq_eq_false_iff_ne.2 (by omega)
 clear hr0 hc0 hv hva hl hne
 have HB0 := am (below_alloc (Below.refl w.heap.size w) (.cells #[] 3))
 have HZ0 := am (blk_new w (.cells #[] 3))
 go_enter Tryz.func73, Tryz.ntmps73
 go_wp2_with fail
 refine (impl_MelodyValid.calls n A0 c0 l0 true _ (Kd.C_below HR0.out HB0.out) HC0.out HV.out).mono ?_
 rintro e w1 ⟨rfl, hb⟩
 have HB1 := am (below_step HB0.out hb)
 have HZ1 := am (blk_below HZ0.out hb)
 clear hb HB0 HZ0
 go_wp2_with fail
 refine (linked_any A0 c0 l0 _ (Kd.C_below HR0.out HB1.out) HC0.out (by have := HL.out; omega)).mono ?_
 rintro e w2 ⟨p, rfl, hL, hb⟩
 have HB2 := am (below_step HB1.out hb)
 have HZ2 := am (blk_below HZ1.out hb)
 have HL2 := am hL
 clear hb hL HB1 HZ1
 go_wp2_with fail
 go_loopg [5, 6] l0.length (fun kq v5 v6 w' => ∃ (i : Nat) (p : Option Addr), v6 = .pointer p ∧ Aside0 (i < l0.length ∧ kq = l0.length - i) ∧ Aside0 (IsList w' p (l0.drop i)) ∧ Aside0 (Kd.R (Kd.int .i64) 3 w' w.heap.size (fun _ => True) v5 (stepsOf (l0.take (i + 1)))) ∧ Aside0 (Below w.heap.size w w'))
 case atStart =>
  refine ⟨0, p, rfl, ⟨HNE.out, by omega⟩, ⟨by simpa using HL2.out⟩, ⟨?_⟩, HB2⟩
  rw [show stepsOf (l0.take (0 + 1)) = [] by
   cases l0 with
   | nil => rfl
   | cons t r => rfl]
  exact ms_empty _ _ _ trivial HZ2.out (Nat.le_refl _)
 case round =>
  obtain ⟨i, p', rfl, HI, HLS, HO, HB⟩ := hrel
  clear HB2 HZ2 HL2
  have hin : i < l0.length := HI.out.1
  obtain ⟨S, hS⟩ : ∃ S, S = stepsOf (l0.take (i + 1)) := ⟨_, rfl⟩
  have hO := HO.out
  rw [← hS] at hO
  obtain ⟨A5, c5, rfl⟩ := Kd.R_slice hO
  have HO := am hO
  have HSE := am hS
  obtain ⟨t, ht⟩ : ∃ t, t = l0[i] := ⟨_, rfl⟩
  have hL := HLS.out
  rw [List.drop_eq_getElem_cons hin, ← ht] at hL
  obtain ⟨g, q, rfl, hg, hR⟩ := hL
  have HG := am hg
  by_cases hlast : i + 1 < l0.length
  ·obtain ⟨u, hu⟩ : ∃ u, u = l0[i + 1] := ⟨_, rfl⟩
   rw [List.drop_eq_getElem_cons hlast, ← hu] at hR
   have HR := am hR
   obtain ⟨g2, q2, rfl, hg2, hR2⟩ := hR
   have HU := am hg2
   have kq2 : wr.cell? ⟨g, 2, none⟩ = some (.pointer (some ⟨g2, 0, none⟩)) := blk_cell hg 2
   have HST := am (ms_step (HVA.out t (by rw [ht]; exact List.getElem_mem hin)) (HVA.out u (by rw [hu]; exact List.getElem_mem hlast)))
   have HS2 := am (show stepsOf (l0.take (i + 1 + 1)) = S ++ [u.f0 - t.f0] by
    rw [hS, ht, hu, List.take_succ_eq_append_getElem hlast, List.take_succ_eq_append_getElem hin, stepsOf_snoc])
   have HD2 := am (show l0.drop (i + 1) = u :: l0.drop (i + 1 + 1) by rw [List.drop_eq_getElem_cons hlast, ← hu])
   have HSL := am (show S.length + 1 ≤ 24 by rw [hS, stepsOf_len, List.length_take]; have := HL.out; omega)
   clear hS hO ht hu hg hg2 hR2 hin hlast HLS
   go_wp2_with fail
   have HG1 := am (blk_drew HG.out)
   have HU1 := am (blk_drew HU.out)
   have HR1 := am (IsList.below (below_drew1 (Below.refl _ _)) HR.out)
   have HO1 := am (Kd.R_drew HO.out)
   have HB1 := am (below_drew1 HB.out)
   refine start_ (n := 18) (S := fun w' => w'.cell? ⟨g, 0, none⟩ = some (.int .i64 t.f0) ∧ w'.cell? ⟨g, 1, none⟩ = some (.bool t.f1) ∧ w'.cell? ⟨g, 2, none⟩ = some (.pointer (some ⟨g2, 0, none⟩)) ∧ w'.cell? ⟨g2, 0, none⟩ = some (.int .i64 u.f0) ∧ w'.cell? ⟨g2, 1, none⟩ = some (.bool u.f1)) (ds := []) #[F,F,F,F,F,F,F,F,F,F,F,F,F,F,F,F,F,F] (by kernel_rfl) rfl rfl ⟨blk_cell HG1.out 0, blk_cell HG1.out 1, blk_cell HG1.out 2, blk_cell HU1.out 0, blk_cell HU1.out 1⟩ (fun hHeld => ?_)
   clear HG HU HR HO HB kq2
   generalize wr.drew = wd at HG1 HU1 HR1 HO1 HB1 hHeld ⊢
   refine pz 0 (some 31) #[T,F,F,F,F,F,F,F,F,F,F,F,F,F,F,F,F,F] (by kernel_rfl) (h := ?_)
   refine pz 1 (some 32) #[T,T,F,F,F,F,F,F,F,F,F,F,F,F,F,F,F,F] (by kernel_rfl) (h := ?_)
   refine pz 2 (some 33) #[T,T,T,F,F,F,F,F,F,F,F,F,F,F,F,F,F,F] (by kernel_rfl) (h := ?_)
   refine pz 3 (some 34) #[T,T,T,T,F,F,F,F,F,F,F,F,F,F,F,F,F,F] (by kernel_rfl) (h := ?_)
   refine pz 5 (some 36) #[T,T,T,T,F,T,F,F,F,F,F,F,F,F,F,F,F,F] (by kernel_rfl) (h := ?_)
   refine pz 6 (some 37) #[T,T,T,T,F,T,T,F,F,F,F,F,F,F,F,F,F,F] (by kernel_rfl) (h := ?_)
   refine pz 7 (some 38) #[T,T,T,T,F,T,T,T,F,F,F,F,F,F,F,F,F,F] (by kernel_rfl) (h := ?_)
   refine tz hHeld 4 (some 35) #[T,T,T,T,T,T,T,T,F,F,F,F,F,F,F,F,F,F] (by kernel_rfl) (h := ?_)
   refine tz hHeld 8 (some 39) #[T,T,T,T,T,T,T,T,T,F,F,F,F,F,F,F,F,F] (by kernel_rfl) (h := ?_)
   refine pz 9 (some 40) #[T,T,T,T,T,T,T,T,T,T,F,F,F,F,F,F,F,F] (by kernel_rfl) (h := ?_)
   refine pz 10 (some 41) #[T,T,T,T,T,T,T,T,T,T,T,F,F,F,F,F,F,F] (by kernel_rfl) (h := ?_)
   refine tz hHeld 11 (some 42) #[T,T,T,T,T,T,T,T,T,T,T,T,F,F,F,F,F,F] (by kernel_rfl) (h := ?_)
   refine one_ (i := 12) (N := some 43) #[T,T,T,T,T,T,T,T,T,T,T,T,T,F,F,F,F,F] rfl rfl (by kernel_rfl) (by decide) (fun K hK => ?_)
   refine goesW_ Tryz.func74 (by kernel_rfl) rfl 31 rfl #[.agg #[.int .i64 t.f0, .bool t.f1], .agg #[.int .i64 u.f0, .bool u.f1]] (by rfl) rfl rfl (by (try simp only [mA, mC, mN]); first | done | rfl) ?_
   with_reducible refine (impl_ToneSteps.calls t.f0 t.f1 u.f0 u.f1 (u.f0 - t.f0) true _ HST.out).mono ?_
   rintro e we ⟨rfl, hb⟩
   refine ⟨_, rfl, ?_⟩
   have HG2 := am (blk_below HG1.out hb)
   have HU2 := am (blk_below HU1.out hb)
   have HR2 := am (IsList.below hb HR1.out)
   have HO2 := am (Kd.R_below HO1.out hb)
   have HB2 := am (below_step HB1.out hb)
   clear HG1 HU1 HR1 HO1 HB1 hb
   refine hK.out _ _ ⟨blk_cell HG2.out 0, blk_cell HG2.out 1, blk_cell HG2.out 2, blk_cell HU2.out 0, blk_cell HU2.out 1⟩ (fun hHeld => ?_)
   clear hK K
   refine norm_ (a' := ?_) ?_ ?_
   rotate_left
   ·show Act.put _ (some 43) _ = _
    simp only [Act.put, sA, sZ, sS, i64_w, i32_w]
    rfl
   refine pz 13 (some 30) #[T,T,T,T,T,T,T,T,T,T,T,T,T,T,F,F,F,F] (by kernel_rfl) (h := ?_)
   refine pz 14 (some 44) #[T,T,T,T,T,T,T,T,T,T,T,T,T,T,T,F,F,F] (by kernel_rfl) (h := ?_)
   refine pz 15 (some 45) #[T,T,T,T,T,T,T,T,T,T,T,T,T,T,T,T,F,F] (by kernel_rfl) (h := ?_)
   refine pz 16 (some 7) #[T,T,T,T,T,T,T,T,T,T,T,T,T,T,T,T,T,F] (by kernel_rfl) (h := ?_)
   refine pz 17 (some 8) #[T,T,T,T,T,T,T,T,T,T,T,T,T,T,T,T,T,T] (by kernel_rfl) (h := ?_)
   refine done_ (by kernel_rfl) ?_
   clear hHeld
   go_upto_region 9 with fail
   go_wp2_with ((with_reducible refine gate_builtin (b := .append) (xs := #[.tmp 47, .tmp 49]) rfl ?_); at_builtin; refine Kd.R_append (Kd.int .i64) (w0 := w) w.heap.size rfl (.tmp 47) (.tmp 49) 28 3 (.int .i64 0) 8 rfl Tryz.underlying28 infoSI rfl (by decide) (by omega) (.slice A5 S.length c5) S (u.f0 - t.f0) [.int .i64 (u.f0 - t.f0)] (fun _ => True) (fun _ => False) rfl rfl ?aP (fun _ hk => hk.elim) ?aF ?aO ?aB ?aS ?aL ?_; (case aP => exact rfl); (case aB => exact HB2.out); (case aF => exact (fun _ _ => trivial)); (case aO => exact HO2.out); (case aS => exact (below_size HB2.out)); (case aL => have := HSL.out; omega); intro v1 w6 ho hb hg hat; have HO3 := am ho; have HB3 := am hb; have HG3 := am (blk_grown HG2.out hg (Kd.R_ne HO2.out HG2.out (by decide))); have HR3 := am (IsList.grown_i HO2.out hg HR2.out); have kq3 : w6.cell? ⟨g, 2, none⟩ = some (.pointer (some ⟨g2, 0, none⟩)) := blk_cell HG3.out 2; clear ho hb hg hat HO2 HB2 HG2 HR2 HU2)
   go_roundg (l0.length - (i + 1))
   case measure => have := HI.out; have := HD2.out; have := congrArg List.length this; simp at this; omega
   case rel =>
    refine ⟨i + 1, some ⟨g2, 0, none⟩, rfl, ⟨?_, rfl⟩, ⟨by rw [HD2.out]; exact HR3.out⟩, ⟨by rw [HS2.out]; exact HO3.out⟩, HB3⟩
    have := congrArg List.length HD2.out
    rw [List.length_drop, List.length_cons] at this
    omega
  have e0 : l0.drop (i + 1) = [] := List.drop_eq_nil_of_le (by omega)
  rw [e0] at hR
  obtain rfl : q = none := hR
  have kq2 : wr.cell? ⟨g, 2, none⟩ = some (.pointer none) := blk_cell hg 2
  have HE := am (show stepsOf l0 = S by rw [hS, List.take_of_length_le (by omega)])
  clear hS hO ht hg hin hlast HLS e0
  go_wp2_with fail
  go_ret
  exact ⟨_, rfl, by rw [HE.out]; exact HO.out, HB.out⟩
def impl_MelodySteps.f (n : Nat) (l0 : List S74) : Option (List Int) := (impl_MelodyValid.f n l0).bind fun ok => if ok = true ∧ 0 < l0.length then some (stepsOf l0) else none
theorem impl_MelodySteps.mono : ∀ a0 n, LeO (impl_MelodySteps.f n a0) (impl_MelodySteps.f (n + 1) a0) := by
 intro a0 n
 unfold impl_MelodySteps.f
 exact LeO.bind (impl_MelodyValid.mono _ _) (fun _ => LeO.refl _)
theorem impl_MelodySteps.calls (n : Nat) (A0 : Option Addr) (c0 : Nat) (l0 : List S74) (r : List Int) (w : World) (hr0 : Kd.C k74 w A0 l0.length l0) (hc0 : l0.length ≤ c0) (h : impl_MelodySteps.f n l0 = some r) :
  Calls Tryz.prog 34 #[.slice A0 l0.length c0] w fun e w' => ∃ v0_ : Value, e = .returned v0_ ∧ Kd.R (Kd.int .i64) 3 w' w.heap.size (fun _ => True) v0_ r ∧ Below w.heap.size w w' := by
 unfold impl_MelodySteps.f at h
 obtain ⟨ok, hv, h⟩ := Option.bind_eq_some_iff.mp h
 by_cases hc : ok = true ∧ 0 < l0.length
 ·rw [if_pos hc] at h
  obtain rfl := Option.some.inj h
  obtain ⟨rfl, hne⟩ := hc
  have HR0 := am hr0
  have HC0 := am hc0
  have HV := am hv
  have HNE := am hne
  clear hr0 hc0 hv hne h
  go_enter Tryz.func34, Tryz.ntmps34
  go_wp2_with fail
  refine (steps_any n A0 c0 l0 _ HR0.out HC0.out HV.out HNE.out).mono ?_
  rintro e w1 ⟨v, rfl, ho, hb⟩
  have HO := am ho
  have HB := am hb
  clear ho hb
  go_wp2_with fail
  go_ret
  exact ⟨_, rfl, HO.out, HB.out⟩
 rw [if_neg hc] at h
 exact absurd h (by simp)


/-! ### withNumbers, by hand (strconv.Itoa by the shelf's contract) -/
def TabP (w : World) : Prop := Lib.TabIs Tryz.prog w "internal/strconv.uint64pow10" .u64 Lib.pow10Tab
theorem TabP.below {w w1 : World} (h : TabP w) (hb : Below w.heap.size w w1) : TabP w1 := by
 have hg : Tryz.prog.globalNamed "internal/strconv.uint64pow10" = some 5 := by kernel_rfl
 have h0 := Lib.TabIs.cell h hg 0 (by rw [Lib.pow10Tab_length]; decide)
 exact var?_below hb hg (World.block_lt_of_cell? _ _ h0) h
def itoaB (a : Int) : ByteArray := ⟨(Lib.itoa a).toArray⟩
theorem itoaB_all : ∀ n, n < 199 → (itoaB ((n : Nat) - 99 : Int)).size ≤ 3 := by decide +kernel
theorem itoaB_size {a : Int} (h0 : -100 < a) (h1 : a < 100) : (itoaB a).size ≤ 3 := by
 obtain ⟨n, hn⟩ := Int.eq_ofNat_of_zero_le (show 0 ≤ a + 99 by omega)
 obtain rfl : a = ((n : Nat) - 99 : Int) := by omega
 exact itoaB_all n (by omega)
theorem itoaP (a0 : Int) (h0 : -100 < a0) (h1 : a0 < 100) (w : World) (hTP : TabP w) : Calls Tryz.prog 44 #[.int .i64 a0] w fun e w' => e = .returned (.string (itoaB a0)) ∧ Below w.heap.size w w' := by
 refine (Tryz.strconv_Itoa a0 (by omega) (by omega) w hTP).mono ?_
 rintro e w' ⟨rfl, k, os, rfl⟩
 exact ⟨rfl, ⟨rfl, rfl, rfl, by simp [Sort.grow], fun i hi => by
  show (w.heap ++ os)[i]? = w.heap[i]?
  rw [Array.getElem?_append_left hi]⟩⟩
/-- The numbers' words behind a word. -/
def wn : ByteArray → List Int → ByteArray
 | w, [] => w
 | w, d :: r => wn (w ++ ((⟨#[32]⟩ : ByteArray) ++ itoaB d)) r
theorem wn_rd (xs : List Int) (i : Nat) (h : i < xs.length) : rd xs (i : Int) = xs[i] := by
 simp [rd, List.getD_eq_getElem?_getD, h]
def wnOk (a0 : ByteArray) (l1 : List Int) : Prop := (∀ d ∈ l1, -100 < d ∧ d < 100) ∧ l1.length ≤ 100 ∧ a0.size ≤ 1000
instance (a0 : ByteArray) (l1 : List Int) : Decidable (wnOk a0 l1) := by unfold wnOk; exact inferInstance
def impl_withNumbers.f (k : Nat) (a0 : ByteArray) (l1 : List Int) : Option ByteArray := if wnOk a0 l1 then some (wn a0 l1) else none
theorem impl_withNumbers.mono : ∀ a0 a1 k, LeO (impl_withNumbers.f k a0 a1) (impl_withNumbers.f (k + 1) a0 a1) := fun _ _ _ => LeO.refl _
theorem impl_withNumbers.calls (k : Nat) (a0 : ByteArray) (A1 : Option Addr) (c1 : Nat) (l1 : List Int) (r : ByteArray) (w : World) (hr1 : Kd.C (Kd.int .i64) w A1 l1.length l1) (hc1 : l1.length ≤ c1) (hTP : TabP w) (h : impl_withNumbers.f k a0 l1 = some r) :
  Calls Tryz.prog 180 #[.string a0, .slice A1 l1.length c1] w fun e w' => e = .returned (.string r) ∧ Below w.heap.size w w' := by
 unfold impl_withNumbers.f at h
 by_cases hok : wnOk a0 l1
 ·rw [if_pos hok] at h
  obtain rfl := Option.some.inj h
  obtain ⟨hd, hl, hs⟩ := hok
  have HR1 := am hr1
  have HC1 := am hc1
  have HTP : Aside0 (TabP w) := ⟨hTP⟩
  have HD := am hd
  have HL := am hl
  have HSZ := am hs
  obtain ⟨n, hn⟩ : ∃ n, n = l1.length := ⟨_, rfl⟩
  have HN := am hn
  rw [← hn]
  clear hr1 hc1 hTP hd hl hs h hn
  go_enter Tryz.func180, Tryz.ntmps180
  go_wp2_with fail
  go_loopg [0, 9] n (fun kq v0 v9 w' => ∃ (i : Nat) (word : ByteArray), v0 = .string word ∧ v9 = .int .i64 (i : Int) ∧ Aside0 (i ≤ n ∧ kq = n - i) ∧ Aside0 (wn word (l1.drop i) = wn a0 l1) ∧ Aside0 (word.size ≤ 1000 + 4 * i) ∧ Aside0 (Below w.heap.size w w'))
  case atStart => exact ⟨0, a0, rfl, rfl, ⟨by omega, by omega⟩, ⟨by rw [List.drop_zero]⟩, ⟨by have := HSZ.out; omega⟩, ⟨Below.refl _ _⟩⟩
  case round =>
   obtain ⟨i, word, rfl, rfl, HI, HW, HS, HB⟩ := hrel
   by_cases hi : i < n
   ·have hin : i < l1.length := by rw [← HN.out]; exact hi
    obtain ⟨d, hd⟩ : ∃ d, d = l1[i] := ⟨_, rfl⟩
    have hdb := HD.out d (by rw [hd]; exact List.getElem_mem hin)
    have HDB := am hdb
    have hds := itoaB_size hdb.1 hdb.2
    have HW2 := am (show wn (word ++ ((⟨#[32]⟩ : ByteArray) ++ itoaB d)) (l1.drop (i + 1)) = wn a0 l1 by rw [← HW.out, List.drop_eq_getElem_cons hin, wn, hd])
    have HS2 := am (show (word ++ ((⟨#[32]⟩ : ByteArray) ++ itoaB d)).size ≤ 1000 + 4 * (i + 1) by
     rw [ByteArray.size_append, ByteArray.size_append]
     have e : (⟨#[32]⟩ : ByteArray).size = 1 := rfl
     have := HS.out
     omega)
    obtain ⟨ad, e1, hx⟩ := Kd.at_int (Kd.C_below HR1.out HB.out) (i : Int) (by omega) (by omega)
    rw [Int.toNat_natCast, wn_rd l1 i hin, ← hd] at hx
    have hw1 := HS.out
    have hn100 := HL.out
    have s1 : (9223372036854775807 < 1 + (itoaB d).size) = False := eq_false (by omega)
    have s2 : (9223372036854775807 < word.size + (1 + (itoaB d).size)) = False := eq_false (by omega)
    have b0 : decide ((i : Int) < (n : Int)) = true := decide_eq_true (by omega)
    have p0 : (0 ≤ (i : Int)) = True := eq_true (by omega)
    have p1 : ((i : Int) < (n : Int)) = True := eq_true (by omega)
    have hwr : wrap64 ((i : Int) + 1) = (i : Int) + 1 := by unfold wrap64; have := HN.out; omega
    subst e1
    clear hd hdb hds hin hw1 hn100 HW HS
    go_wp2_with fail
    refine (itoaP d HDB.out.1 HDB.out.2 _ (TabP.below HTP.out HB.out)).mono ?_
    rintro e w2 ⟨rfl, hb⟩
    have HB2 := am (below_step HB.out hb)
    clear hb HB hx
    go_wp2_with fail
    go_roundg (n - (i + 1))
    case measure => have := HI.out; omega
    case rel => exact ⟨i + 1, _, rfl, by first | rfl | simp [hwr] | simp, ⟨by omega, rfl⟩, HW2, HS2, HB2⟩
   have ei : i = n := by have := HI.out; omega
   have HE := am (show wn a0 l1 = word by rw [← HW.out, ei, HN.out, List.drop_length, wn])
   have b0 : decide ((i : Int) < (n : Int)) = false := decide_eq_false (by omega)
   clear ei HW
   go_wp2_with fail
   go_ret
   exact ⟨by rw [HE.out]; rfl, HB.out⟩
 rw [if_neg hok] at h
 exact absurd h (by simp)


-- INNER impl_hexachords
-- INNER impl_hexachord_syllable
end Go.Proofs.YtjnkmckklmabcaaGreatDoor.XL
