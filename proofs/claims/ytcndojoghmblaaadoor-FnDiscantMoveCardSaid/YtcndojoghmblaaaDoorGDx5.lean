-- Made by this session's gprint.py out of the translation. Not trusted: Lean checks it.
import Derived.Test.YtcndojoghmblaaaDoorGDx0
import Derived.Test.YtcndojoghmblaaaDoorGDx3
import Derived.Test.YtcndojoghmblaaaDoorGDx4
namespace Go.Proofs.YtcndojoghmblaaaDoor.GD
open Go.RowKit Go.Proofs.YtcndojoghmblaaaDoorW.PrintWords Go.Proofs.YtcndojoghmblaaaDoorW.PrintLast Go.Proofs.YtcndojoghmblaaaDoorW.PrintMore
attribute [local go_sem] max2_int min2_int max_two min_two max_three min_three max_four min_four   -- for this text's walks alone
set_option linter.unusedVariables false
set_option linter.unusedSimpArgs false

/-! ### impl_DiscantParallels: function 22 -/
def impl_DiscantParallels.l0 : Nat → List (S85) → Int → Int → Option (Int)
 | 0, _, _, _ => none
 | k + 1, x5, x7, x8 => if x8 < (x5.length : Int) then (if 0 ≤ (wrap64 (x8 - 1)) then (if (wrap64 (x8 - 1)) < (x5.length : Int) then (if 0 ≤ x8 then ((impl_soundPair_changesTo.f ((rd_T85 x5 (wrap64 (x8 - 1))).f0.f0) ((rd_T85 x5 (wrap64 (x8 - 1))).f0.f1) ((rd_T85 x5 (wrap64 (x8 - 1))).f1.f0) ((rd_T85 x5 (wrap64 (x8 - 1))).f1.f1) ((rd_T85 x5 x8).f0.f0) ((rd_T85 x5 x8).f0.f1) ((rd_T85 x5 x8).f1.f0) ((rd_T85 x5 x8).f1.f1)).bind fun bt117 => (if bt117.1 = 0 then (impl_DiscantParallels.l0 k x5 x7 (wrap64 (x8 + 1))) else (if bt117.1 = bt117.2 then ((impl_soundPair_concord.f k ((rd_T85 x5 (wrap64 (x8 - 1))).f0.f0) ((rd_T85 x5 (wrap64 (x8 - 1))).f0.f1) ((rd_T85 x5 (wrap64 (x8 - 1))).f1.f0) ((rd_T85 x5 (wrap64 (x8 - 1))).f1.f1)).bind fun t120 => (if t120 = true then ((impl_soundPair_concord.f k ((rd_T85 x5 x8).f0.f0) ((rd_T85 x5 x8).f0.f1) ((rd_T85 x5 x8).f1.f0) ((rd_T85 x5 x8).f1.f1)).bind fun t122 => (if t122 = true then (impl_DiscantParallels.l0 k x5 (wrap64 (x7 + 1)) (wrap64 (x8 + 1))) else (impl_DiscantParallels.l0 k x5 x7 (wrap64 (x8 + 1))))) else (impl_DiscantParallels.l0 k x5 x7 (wrap64 (x8 + 1))))) else (impl_DiscantParallels.l0 k x5 x7 (wrap64 (x8 + 1)))))) else (none)) else (none)) else (none)) else (some x7)
def impl_DiscantParallels.f (k : Nat) (l0 : List (S44)) (l1 : List (S44)) : Option (Int) := (impl_soundsOf.f k l0 l1).bind fun bt111 => (if bt111.2 = true then (impl_DiscantParallels.l0 k bt111.1 0 1) else (some (-1)))
def impl_DiscantParallels.T8 : Bool × List (List Nat × List Nat) := (true, [([], []), ([], []), ([1], [1]), ([0, 2], [0, 2]), ([3], [3]), ([], []), ([], []), ([5, 6], [5, 6]), ([7], [7]), ([4, 8], [4, 8]), ([9], [9]), ([10], [10]), ([10], [10]), ([11, 9, 0, 1, 2, 3, 4, 5, 6, 7, 8, 9, 10, 11], [11]), ([12, 13, 0, 1, 2, 3, 4, 5, 6, 7, 8, 9, 10, 11, 12, 13], [12])])
def impl_DiscantParallels.B8 : List Nat := [0, 0, 2, 7, 15, 0, 0, 96, 224, 511, 1023, 2047, 2047, 4095, 16383]
theorem impl_DiscantParallels.tab8 : rtab .any (opsOf Tryd.f22 8) = impl_DiscantParallels.T8 := by kernel_rfl
theorem impl_DiscantParallels.bits8 : waitsOk impl_DiscantParallels.T8.2 impl_DiscantParallels.B8 = true := by kernel_rfl
set_option maxHeartbeats 8000000 in
set_option maxRecDepth 100000 in
theorem impl_DiscantParallels.calls (k : Nat) (A0 : Option Addr) (c0 : Nat) (l0 : List (S44)) (A1 : Option Addr) (c1 : Nat) (l1 : List (S44)) (r : Int) (w : World) (hr0 : Kd.C k44 w A0 l0.length l0) (hc0 : l0.length ≤ c0) (hr1 : Kd.C k44 w A1 l1.length l1) (hc1 : l1.length ≤ c1) (hTH : TabH w) (hTI : TabI w) (h : impl_DiscantParallels.f k l0 l1 = some r) :
  Calls Tryd.prog 22 #[.slice A0 l0.length c0, .slice A1 l1.length c1] w fun e w' => e = .returned (.int .i64 r) ∧ Below w.heap.size w w' := by
 have hu85 := Tryd.underlying85
 have HTH := am hTH
 clear hTH
 have HTI := am hTI
 clear hTI
 have HR0 := am hr0
 have HC0 := am hc0
 clear hr0 hc0
 have HR1 := am hr1
 have HC1 := am hc1
 clear hr1 hc1
 have HB := am (Below.refl w.heap.size w)
 have H : ((impl_soundsOf.f k l0 l1).bind fun bt111 => (if bt111.2 = true then (impl_DiscantParallels.l0 k bt111.1 0 1) else (some (-1)))) = some r := h
 clear h
 replace H := Option.bind_eq_some_iff.mp H
 obtain ⟨⟨t111, t112⟩, A30, H⟩ := H
 replace H : (if t112 = true then (impl_DiscantParallels.l0 k t111 0 1) else (some (-1))) = some r := H
 have A3 := am A30
 clear A30
 by_cases c4 : t112 = true
 ·subst c4
  have H1 : (impl_DiscantParallels.l0 k t111 0 1) = some r := by rw [if_pos rfl] at H; exact H
  clear H
  have H := H1
  clear H1
  have H' := am H
  clear H
  go_enter Tryd.func22, Tryd.ntmps22
  go_wp2_with (first | ((with_reducible refine gate_callee (f := 68) rfl ?_); refine goesL_ (some 14) rfl rfl Tryd.func68 (by kernel_rfl) rfl #[.slice A0 l0.length c0, .slice A1 l1.length c1] rfl (by (try simp only [List.map_toArray, List.map_cons, List.map_nil]); first | done | rfl | (simp only [List.length_drop, List.length_take]; rfl)) ?_; (with_reducible refine (impl_soundsOf.calls k _ _ l0 _ _ l1 t111 true _ ?side1 ?side2 ?side3 ?side4 A3.out).mono ?_); (case side1 => exact cu HR0.out); (case side2 => exact HC0.out); (case side3 => exact cu HR1.out); (case side4 => exact HC1.out); rintro e w5 ⟨v113, rfl, ho0, hb⟩; refine ⟨_, rfl, ?_⟩; have n0_ := am (Kd.R_lower ho0 (below_size (bu HB.out))); have n1_ := am (below_step (bu HB.out) hb); clear HB; have HO114 := n0_; have HB := n1_; clear n0_ n1_; (try clear hb); (try clear hb2); (try clear hk); (try clear hi); (try clear ho0)))
  go_loopg [7, 8] k (fun kq v7 v8 w' => ∃ (x7_1 : Int) (x8_1 : Int), v7 = .int .i64 x7_1 ∧ v8 = .int .i64 x8_1 ∧ Aside0 (impl_DiscantParallels.l0 kq t111 x7_1 x8_1 = some r) ∧ Aside0 (kq ≤ k) ∧ Aside0 (Kd.R k85 85 w' w.heap.size (fun _ => True) v113 t111) ∧ Aside0 (Below w.heap.size w w'))
  case atStart => exact ⟨(0), (1), (by first | rfl | (simp; done) | (simp [*]; done)), (by first | rfl | (simp; done) | (simp [*]; done)), H', ⟨Nat.le_refl _⟩, ⟨ru HO114.out⟩, ⟨bu HB.out⟩⟩
  case round =>
   clear H'
   try clear c1
   try clear c2
   try clear p2
   try clear c4
   obtain ⟨x7_1, x8_1, rfl, rfl, HA, HK1, HO_5, HB⟩ := hrel
   cases gk with
   | zero => exact absurd HA.out (by simp [impl_DiscantParallels.l0])
   | succ k1 =>
    have H := HA.out
    clear HA
    simp only [impl_DiscantParallels.l0] at H
    by_cases c6 : x8_1 < (t111.length : Int)
    ·rw [if_pos c6] at H
     have c6b0 : decide (x8_1 < (t111.length : Int)) = true := decide_eq_true c6
     clear c6
     obtain ⟨ji7, hji7⟩ : ∃ j_ : Int, (wrap64 (x8_1 - 1)) = j_ := ⟨_, rfl⟩
     replace H : (if 0 ≤ (ji7) then (if (ji7) < (t111.length : Int) then (if 0 ≤ x8_1 then ((impl_soundPair_changesTo.f ((rd_T85 t111 (ji7)).f0.f0) ((rd_T85 t111 (ji7)).f0.f1) ((rd_T85 t111 (ji7)).f1.f0) ((rd_T85 t111 (ji7)).f1.f1) ((rd_T85 t111 x8_1).f0.f0) ((rd_T85 t111 x8_1).f0.f1) ((rd_T85 t111 x8_1).f1.f0) ((rd_T85 t111 x8_1).f1.f1)).bind fun bt117 => (if bt117.1 = 0 then (impl_DiscantParallels.l0 k1 t111 x7_1 (wrap64 (x8_1 + 1))) else (if bt117.1 = bt117.2 then ((impl_soundPair_concord.f k1 ((rd_T85 t111 (ji7)).f0.f0) ((rd_T85 t111 (ji7)).f0.f1) ((rd_T85 t111 (ji7)).f1.f0) ((rd_T85 t111 (ji7)).f1.f1)).bind fun t120 => (if t120 = true then ((impl_soundPair_concord.f k1 ((rd_T85 t111 x8_1).f0.f0) ((rd_T85 t111 x8_1).f0.f1) ((rd_T85 t111 x8_1).f1.f0) ((rd_T85 t111 x8_1).f1.f1)).bind fun t122 => (if t122 = true then (impl_DiscantParallels.l0 k1 t111 (wrap64 (x7_1 + 1)) (wrap64 (x8_1 + 1))) else (impl_DiscantParallels.l0 k1 t111 x7_1 (wrap64 (x8_1 + 1))))) else (impl_DiscantParallels.l0 k1 t111 x7_1 (wrap64 (x8_1 + 1))))) else (impl_DiscantParallels.l0 k1 t111 x7_1 (wrap64 (x8_1 + 1)))))) else (none)) else (none)) else (none)) = some r := by first | (rw [hji7] at H; exact H) | (simp only [hji7] at H ⊢; exact H)
     have hji7w : (IntKind.i64.wrap (x8_1 - 1)) = ji7 := (i64_w _).trans hji7
     by_cases c8 : 0 ≤ (ji7)
     ·rw [if_pos c8] at H
      have c8b0 : decide (0 ≤ (ji7)) = true := decide_eq_true c8
      clear c8
      by_cases c9 : (ji7) < (t111.length : Int)
      ·rw [if_pos c9] at H
       have c9b0 : decide ((ji7) < (t111.length : Int)) = true := decide_eq_true c9
       clear c9
       by_cases c10 : 0 ≤ x8_1
       ·rw [if_pos c10] at H
        have c10b0 : decide (0 ≤ x8_1) = true := decide_eq_true c10
        clear c10
        replace H := Option.bind_eq_some_iff.mp H
        obtain ⟨⟨t117, t118⟩, A110, H⟩ := H
        replace H : (if t117 = 0 then (impl_DiscantParallels.l0 k1 t111 x7_1 (wrap64 (x8_1 + 1))) else (if t117 = t118 then ((impl_soundPair_concord.f k1 ((rd_T85 t111 (ji7)).f0.f0) ((rd_T85 t111 (ji7)).f0.f1) ((rd_T85 t111 (ji7)).f1.f0) ((rd_T85 t111 (ji7)).f1.f1)).bind fun t120 => (if t120 = true then ((impl_soundPair_concord.f k1 ((rd_T85 t111 x8_1).f0.f0) ((rd_T85 t111 x8_1).f0.f1) ((rd_T85 t111 x8_1).f1.f0) ((rd_T85 t111 x8_1).f1.f1)).bind fun t122 => (if t122 = true then (impl_DiscantParallels.l0 k1 t111 (wrap64 (x7_1 + 1)) (wrap64 (x8_1 + 1))) else (impl_DiscantParallels.l0 k1 t111 x7_1 (wrap64 (x8_1 + 1))))) else (impl_DiscantParallels.l0 k1 t111 x7_1 (wrap64 (x8_1 + 1))))) else (impl_DiscantParallels.l0 k1 t111 x7_1 (wrap64 (x8_1 + 1))))) = some r := H
        have A11 := am A110
        clear A110
        by_cases c12 : t117 = 0
        ·rw [if_pos c12] at H
         have c12b0 : (t117 == 0) = true := beq_iff_eq.mpr c12
         have c12b1 : (t117 != 0) = false := bne_eq_false_iff_eq.mpr c12
         clear c12
         have H' := am H
         clear H
         obtain ⟨Ao13, co13, eo13⟩ := Kd.R_slice HO_5.out
         subst eo13
         try go_wp2
         have n0_ := am (Kd.R_drew HO_5.out)
         have n1_ := am (below_drew1 HB.out)
         clear HO_5
         clear HB
         have HO_5 := n0_
         have HB := n1_
         clear n0_ n1_
         have p115 : 0 ≤ ((ji7) : Int) := od
         have q115 : (ji7) < (t111.length : Int) := od
         obtain ⟨ad115, e115, hx115_0, hx115_1, hx115_2, hx115_3⟩ := at_T85 (Kd.R_reads' HO_5.out).2.2 (ji7) p115 q115
         cases e115
         replace p115 := eq_true p115
         replace q115 := eq_true q115
         have p116 : 0 ≤ (x8_1 : Int) := od
         have q116 : x8_1 < (t111.length : Int) := od
         obtain ⟨ad116, e116, hx116_0, hx116_1, hx116_2, hx116_3⟩ := at_T85 (Kd.R_reads' HO_5.out).2.2 x8_1 p116 q116
         obtain rfl : ad115 = ad116 := (by injection e116)
         replace p116 := eq_true p116
         replace q116 := eq_true q116
         refine start_ (n := 15) (S := fun w' => w'.cell? (ad115.add (((ji7)).toNat * 4)) = some (.int .i64 ((rd_T85 t111 (ji7)).f0.f0)) ∧ w'.cell? ⟨(ad115.add (((ji7)).toNat * 4)).block, (ad115.add (((ji7)).toNat * 4)).off + 1, none⟩ = some (.bool ((rd_T85 t111 (ji7)).f0.f1)) ∧ w'.cell? ⟨(ad115.add (((ji7)).toNat * 4)).block, (ad115.add (((ji7)).toNat * 4)).off + 2, none⟩ = some (.int .i64 ((rd_T85 t111 (ji7)).f1.f0)) ∧ w'.cell? ⟨(ad115.add (((ji7)).toNat * 4)).block, (ad115.add (((ji7)).toNat * 4)).off + 3, none⟩ = some (.bool ((rd_T85 t111 (ji7)).f1.f1)) ∧ w'.cell? (ad115.add ((x8_1).toNat * 4)) = some (.int .i64 ((rd_T85 t111 x8_1).f0.f0)) ∧ w'.cell? ⟨(ad115.add ((x8_1).toNat * 4)).block, (ad115.add ((x8_1).toNat * 4)).off + 1, none⟩ = some (.bool ((rd_T85 t111 x8_1).f0.f1)) ∧ w'.cell? ⟨(ad115.add ((x8_1).toNat * 4)).block, (ad115.add ((x8_1).toNat * 4)).off + 2, none⟩ = some (.int .i64 ((rd_T85 t111 x8_1).f1.f0)) ∧ w'.cell? ⟨(ad115.add ((x8_1).toNat * 4)).block, (ad115.add ((x8_1).toNat * 4)).off + 3, none⟩ = some (.bool ((rd_T85 t111 x8_1).f1.f1))) (ds := []) #[F,F,F,F,F,F,F,F,F,F,F,F,F,F,F] (by kernel_rfl) rfl rfl ⟨hx115_0, hx115_1, hx115_2, hx115_3, hx116_0, hx116_1, hx116_2, hx116_3⟩ (fun hHeld => ?_); refine with_tabW impl_DiscantParallels.tab8 impl_DiscantParallels.bits8 (fun HT_ HW_ => ?_)
         generalize wr.drew = w14 at HO_5 HB hx115_0 hx115_1 hx115_2 hx115_3 hx116_0 hx116_1 hx116_2 hx116_3 hHeld ⊢
         refine pz 0 (some 26) #[T,F,F,F,F,F,F,F,F,F,F,F,F,F,F] (any_of HT_.out (by kernel_rfl)) (h := ?_)
         refine pz 1 (some 27) #[T,T,F,F,F,F,F,F,F,F,F,F,F,F,F] (any_of HT_.out (by kernel_rfl)) (h := ?_)
         refine pz 2 (some 28) #[T,T,T,F,F,F,F,F,F,F,F,F,F,F,F] (any_of HT_.out (by kernel_rfl)) (h := ?_)
         refine pz 3 (some 29) #[T,T,T,T,F,F,F,F,F,F,F,F,F,F,F] (any_of HT_.out (by kernel_rfl)) (h := ?_)
         refine pz 5 (some 31) #[T,T,T,T,F,T,F,F,F,F,F,F,F,F,F] (any_of HT_.out (by kernel_rfl)) (h := ?_)
         refine pz 6 (some 32) #[T,T,T,T,F,T,T,F,F,F,F,F,F,F,F] (any_of HT_.out (by kernel_rfl)) (h := ?_)
         refine pz 7 (some 33) #[T,T,T,T,F,T,T,T,F,F,F,F,F,F,F] (any_of HT_.out (by kernel_rfl)) (h := ?_)
         refine tz hHeld 4 (some 30) #[T,T,T,T,T,T,T,T,F,F,F,F,F,F,F] (take_ofW HT_.out HW_.out (by kernel_rfl)) (h := ?_)
         refine tz hHeld 8 (some 34) #[T,T,T,T,T,T,T,T,T,F,F,F,F,F,F] (take_ofW HT_.out HW_.out (by kernel_rfl)) (h := ?_)
         refine one_ (i := 9) (N := some 35) #[T,T,T,T,T,T,T,T,T,T,F,F,F,F,F] rfl rfl (one_of HT_.out (by kernel_rfl)) (by decide) (fun K hK => ?_)
         refine goes_ Tryd.func80 (by kernel_rfl) rfl #[.agg #[.int .i64 ((rd_T85 t111 (ji7)).f0.f0), .bool ((rd_T85 t111 (ji7)).f0.f1), .int .i64 ((rd_T85 t111 (ji7)).f1.f0), .bool ((rd_T85 t111 (ji7)).f1.f1)], .agg #[.int .i64 ((rd_T85 t111 x8_1).f0.f0), .bool ((rd_T85 t111 x8_1).f0.f1), .int .i64 ((rd_T85 t111 x8_1).f1.f0), .bool ((rd_T85 t111 x8_1).f1.f1)]] (by rfl) rfl rfl (by (try simp only [List.map_toArray, List.map_cons, List.map_nil]); first | done | (simp only [hji7]; rfl) | rfl | (simp only [List.length_drop, List.length_take]; rfl)) ?_
         with_reducible refine (impl_soundPair_changesTo.calls ((rd_T85 t111 (ji7)).f0.f0) ((rd_T85 t111 (ji7)).f0.f1) ((rd_T85 t111 (ji7)).f1.f0) ((rd_T85 t111 (ji7)).f1.f1) ((rd_T85 t111 x8_1).f0.f0) ((rd_T85 t111 x8_1).f0.f1) ((rd_T85 t111 x8_1).f1.f0) ((rd_T85 t111 x8_1).f1.f1) t117 t118 _ A11.out).mono ?_
         rintro e w15 ⟨rfl, hb⟩
         have HS0_ := (hb.cell (World.block_lt_of_cell? _ _ (hHeld.1))).trans (hHeld.1)
         have HS1_ := (hb.cell (World.block_lt_of_cell? _ _ (hHeld.2.1))).trans (hHeld.2.1)
         have HS2_ := (hb.cell (World.block_lt_of_cell? _ _ (hHeld.2.2.1))).trans (hHeld.2.2.1)
         have HS3_ := (hb.cell (World.block_lt_of_cell? _ _ (hHeld.2.2.2.1))).trans (hHeld.2.2.2.1)
         have HS4_ := (hb.cell (World.block_lt_of_cell? _ _ (hHeld.2.2.2.2.1))).trans (hHeld.2.2.2.2.1)
         have HS5_ := (hb.cell (World.block_lt_of_cell? _ _ (hHeld.2.2.2.2.2.1))).trans (hHeld.2.2.2.2.2.1)
         have HS6_ := (hb.cell (World.block_lt_of_cell? _ _ (hHeld.2.2.2.2.2.2.1))).trans (hHeld.2.2.2.2.2.2.1)
         have HS7_ := (hb.cell (World.block_lt_of_cell? _ _ (hHeld.2.2.2.2.2.2.2))).trans (hHeld.2.2.2.2.2.2.2)
         refine ⟨_, rfl, ?_⟩
         have n0_ := am (Kd.R_below (ru HO_5.out) hb)
         have n1_ := am (below_step (bu HB.out) hb)
         clear HO_5
         clear HB
         have HO_5 := n0_
         have HB := n1_
         clear n0_ n1_
         (try clear hb)
         (try clear hb2)
         (try clear hk)
         (try clear hi)
         refine hK.out _ _ ⟨HS0_, HS1_, HS2_, HS3_, HS4_, HS5_, HS6_, HS7_⟩ (fun hHeld => ?_)
         clear hK K
         refine norm_ (a' := ?_) ?_ ?_
         rotate_left
         ·show Act.put _ (some 35) _ = _
          simp only [Act.put, sA, sZ, sS, i64_w, i32_w]
          rfl
         refine pz 10 (some 25) #[T,T,T,T,T,T,T,T,T,T,T,F,F,F,F] (any_of HT_.out (by kernel_rfl)) (h := ?_)
         refine pz 11 (some 36) #[T,T,T,T,T,T,T,T,T,T,T,T,F,F,F] (any_of HT_.out (by kernel_rfl)) (h := ?_)
         refine pz 12 (some 37) #[T,T,T,T,T,T,T,T,T,T,T,T,T,F,F] (any_of HT_.out (by kernel_rfl)) (h := ?_)
         refine pz 13 (some 9) #[T,T,T,T,T,T,T,T,T,T,T,T,T,T,F] (any_of HT_.out (by kernel_rfl)) (h := ?_)
         refine pz 14 (some 10) #[T,T,T,T,T,T,T,T,T,T,T,T,T,T,T] (any_of HT_.out (by kernel_rfl)) (h := ?_)
         refine done_ (done_of HT_.out (by kernel_rfl)) ?_
         try go_wp2
         go_roundg k1
         case measure => have := HK1.out; omega
         case rel => exact ⟨(x7_1), (wrap64 (x8_1 + 1)), (by first | rfl | (simp; done) | (simp [*]; done)), (by first | rfl | (simp; done) | (simp [*]; done)), H', ⟨by have := HK1.out; omega⟩, ⟨ru HO_5.out⟩, ⟨bu HB.out⟩⟩
        ·rw [if_neg c12] at H
         have c12b0 : (t117 == 0) = false := beq_eq_false_iff_ne.mpr c12
         have c12b1 : (t117 != 0) = true := bne_iff_ne.mpr c12
         by_cases c16 : t117 = t118
         ·rw [if_pos c16] at H
          have c16b0 : (t117 == t118) = true := beq_iff_eq.mpr c16
          have c16b1 : (t117 != t118) = false := bne_eq_false_iff_eq.mpr c16
          clear c16
          replace H := Option.bind_eq_some_iff.mp H
          obtain ⟨t120, A170, H⟩ := H
          replace H : (if t120 = true then ((impl_soundPair_concord.f k1 ((rd_T85 t111 x8_1).f0.f0) ((rd_T85 t111 x8_1).f0.f1) ((rd_T85 t111 x8_1).f1.f0) ((rd_T85 t111 x8_1).f1.f1)).bind fun t122 => (if t122 = true then (impl_DiscantParallels.l0 k1 t111 (wrap64 (x7_1 + 1)) (wrap64 (x8_1 + 1))) else (impl_DiscantParallels.l0 k1 t111 x7_1 (wrap64 (x8_1 + 1))))) else (impl_DiscantParallels.l0 k1 t111 x7_1 (wrap64 (x8_1 + 1)))) = some r := H
          have A17 := am A170
          clear A170
          by_cases c18 : t120 = true
          ·subst c18
           have H1 : ((impl_soundPair_concord.f k1 ((rd_T85 t111 x8_1).f0.f0) ((rd_T85 t111 x8_1).f0.f1) ((rd_T85 t111 x8_1).f1.f0) ((rd_T85 t111 x8_1).f1.f1)).bind fun t122 => (if t122 = true then (impl_DiscantParallels.l0 k1 t111 (wrap64 (x7_1 + 1)) (wrap64 (x8_1 + 1))) else (impl_DiscantParallels.l0 k1 t111 x7_1 (wrap64 (x8_1 + 1))))) = some r := by rw [if_pos rfl] at H; exact H
           clear H
           have H := H1
           clear H1
           replace H := Option.bind_eq_some_iff.mp H
           obtain ⟨t122, A190, H⟩ := H
           replace H : (if t122 = true then (impl_DiscantParallels.l0 k1 t111 (wrap64 (x7_1 + 1)) (wrap64 (x8_1 + 1))) else (impl_DiscantParallels.l0 k1 t111 x7_1 (wrap64 (x8_1 + 1)))) = some r := H
           have A19 := am A190
           clear A190
           by_cases c20 : t122 = true
           ·subst c20
            have H1 : (impl_DiscantParallels.l0 k1 t111 (wrap64 (x7_1 + 1)) (wrap64 (x8_1 + 1))) = some r := by rw [if_pos rfl] at H; exact H
            clear H
            have H := H1
            clear H1
            have H' := am H
            clear H
            obtain ⟨Ao21, co21, eo21⟩ := Kd.R_slice HO_5.out
            subst eo21
            try go_wp2
            have n0_ := am (Kd.R_drew HO_5.out)
            have n1_ := am (below_drew1 HB.out)
            clear HO_5
            clear HB
            have HO_5 := n0_
            have HB := n1_
            clear n0_ n1_
            have p115 : 0 ≤ ((ji7) : Int) := od
            have q115 : (ji7) < (t111.length : Int) := od
            obtain ⟨ad115, e115, hx115_0, hx115_1, hx115_2, hx115_3⟩ := at_T85 (Kd.R_reads' HO_5.out).2.2 (ji7) p115 q115
            cases e115
            replace p115 := eq_true p115
            replace q115 := eq_true q115
            have p116 : 0 ≤ (x8_1 : Int) := od
            have q116 : x8_1 < (t111.length : Int) := od
            obtain ⟨ad116, e116, hx116_0, hx116_1, hx116_2, hx116_3⟩ := at_T85 (Kd.R_reads' HO_5.out).2.2 x8_1 p116 q116
            obtain rfl : ad115 = ad116 := (by injection e116)
            replace p116 := eq_true p116
            replace q116 := eq_true q116
            refine start_ (n := 15) (S := fun w' => w'.cell? (ad115.add (((ji7)).toNat * 4)) = some (.int .i64 ((rd_T85 t111 (ji7)).f0.f0)) ∧ w'.cell? ⟨(ad115.add (((ji7)).toNat * 4)).block, (ad115.add (((ji7)).toNat * 4)).off + 1, none⟩ = some (.bool ((rd_T85 t111 (ji7)).f0.f1)) ∧ w'.cell? ⟨(ad115.add (((ji7)).toNat * 4)).block, (ad115.add (((ji7)).toNat * 4)).off + 2, none⟩ = some (.int .i64 ((rd_T85 t111 (ji7)).f1.f0)) ∧ w'.cell? ⟨(ad115.add (((ji7)).toNat * 4)).block, (ad115.add (((ji7)).toNat * 4)).off + 3, none⟩ = some (.bool ((rd_T85 t111 (ji7)).f1.f1)) ∧ w'.cell? (ad115.add ((x8_1).toNat * 4)) = some (.int .i64 ((rd_T85 t111 x8_1).f0.f0)) ∧ w'.cell? ⟨(ad115.add ((x8_1).toNat * 4)).block, (ad115.add ((x8_1).toNat * 4)).off + 1, none⟩ = some (.bool ((rd_T85 t111 x8_1).f0.f1)) ∧ w'.cell? ⟨(ad115.add ((x8_1).toNat * 4)).block, (ad115.add ((x8_1).toNat * 4)).off + 2, none⟩ = some (.int .i64 ((rd_T85 t111 x8_1).f1.f0)) ∧ w'.cell? ⟨(ad115.add ((x8_1).toNat * 4)).block, (ad115.add ((x8_1).toNat * 4)).off + 3, none⟩ = some (.bool ((rd_T85 t111 x8_1).f1.f1))) (ds := []) #[F,F,F,F,F,F,F,F,F,F,F,F,F,F,F] (by kernel_rfl) rfl rfl ⟨hx115_0, hx115_1, hx115_2, hx115_3, hx116_0, hx116_1, hx116_2, hx116_3⟩ (fun hHeld => ?_); refine with_tabW impl_DiscantParallels.tab8 impl_DiscantParallels.bits8 (fun HT_ HW_ => ?_)
            generalize wr.drew = w22 at HO_5 HB hx115_0 hx115_1 hx115_2 hx115_3 hx116_0 hx116_1 hx116_2 hx116_3 hHeld ⊢
            refine pz 0 (some 26) #[T,F,F,F,F,F,F,F,F,F,F,F,F,F,F] (any_of HT_.out (by kernel_rfl)) (h := ?_)
            refine pz 1 (some 27) #[T,T,F,F,F,F,F,F,F,F,F,F,F,F,F] (any_of HT_.out (by kernel_rfl)) (h := ?_)
            refine pz 2 (some 28) #[T,T,T,F,F,F,F,F,F,F,F,F,F,F,F] (any_of HT_.out (by kernel_rfl)) (h := ?_)
            refine pz 3 (some 29) #[T,T,T,T,F,F,F,F,F,F,F,F,F,F,F] (any_of HT_.out (by kernel_rfl)) (h := ?_)
            refine pz 5 (some 31) #[T,T,T,T,F,T,F,F,F,F,F,F,F,F,F] (any_of HT_.out (by kernel_rfl)) (h := ?_)
            refine pz 6 (some 32) #[T,T,T,T,F,T,T,F,F,F,F,F,F,F,F] (any_of HT_.out (by kernel_rfl)) (h := ?_)
            refine pz 7 (some 33) #[T,T,T,T,F,T,T,T,F,F,F,F,F,F,F] (any_of HT_.out (by kernel_rfl)) (h := ?_)
            refine tz hHeld 4 (some 30) #[T,T,T,T,T,T,T,T,F,F,F,F,F,F,F] (take_ofW HT_.out HW_.out (by kernel_rfl)) (h := ?_)
            refine tz hHeld 8 (some 34) #[T,T,T,T,T,T,T,T,T,F,F,F,F,F,F] (take_ofW HT_.out HW_.out (by kernel_rfl)) (h := ?_)
            refine one_ (i := 9) (N := some 35) #[T,T,T,T,T,T,T,T,T,T,F,F,F,F,F] rfl rfl (one_of HT_.out (by kernel_rfl)) (by decide) (fun K hK => ?_)
            refine goes_ Tryd.func80 (by kernel_rfl) rfl #[.agg #[.int .i64 ((rd_T85 t111 (ji7)).f0.f0), .bool ((rd_T85 t111 (ji7)).f0.f1), .int .i64 ((rd_T85 t111 (ji7)).f1.f0), .bool ((rd_T85 t111 (ji7)).f1.f1)], .agg #[.int .i64 ((rd_T85 t111 x8_1).f0.f0), .bool ((rd_T85 t111 x8_1).f0.f1), .int .i64 ((rd_T85 t111 x8_1).f1.f0), .bool ((rd_T85 t111 x8_1).f1.f1)]] (by rfl) rfl rfl (by (try simp only [List.map_toArray, List.map_cons, List.map_nil]); first | done | (simp only [hji7]; rfl) | rfl | (simp only [List.length_drop, List.length_take]; rfl)) ?_
            with_reducible refine (impl_soundPair_changesTo.calls ((rd_T85 t111 (ji7)).f0.f0) ((rd_T85 t111 (ji7)).f0.f1) ((rd_T85 t111 (ji7)).f1.f0) ((rd_T85 t111 (ji7)).f1.f1) ((rd_T85 t111 x8_1).f0.f0) ((rd_T85 t111 x8_1).f0.f1) ((rd_T85 t111 x8_1).f1.f0) ((rd_T85 t111 x8_1).f1.f1) t117 t118 _ A11.out).mono ?_
            rintro e w23 ⟨rfl, hb⟩
            have HS0_ := (hb.cell (World.block_lt_of_cell? _ _ (hHeld.1))).trans (hHeld.1)
            have HS1_ := (hb.cell (World.block_lt_of_cell? _ _ (hHeld.2.1))).trans (hHeld.2.1)
            have HS2_ := (hb.cell (World.block_lt_of_cell? _ _ (hHeld.2.2.1))).trans (hHeld.2.2.1)
            have HS3_ := (hb.cell (World.block_lt_of_cell? _ _ (hHeld.2.2.2.1))).trans (hHeld.2.2.2.1)
            have HS4_ := (hb.cell (World.block_lt_of_cell? _ _ (hHeld.2.2.2.2.1))).trans (hHeld.2.2.2.2.1)
            have HS5_ := (hb.cell (World.block_lt_of_cell? _ _ (hHeld.2.2.2.2.2.1))).trans (hHeld.2.2.2.2.2.1)
            have HS6_ := (hb.cell (World.block_lt_of_cell? _ _ (hHeld.2.2.2.2.2.2.1))).trans (hHeld.2.2.2.2.2.2.1)
            have HS7_ := (hb.cell (World.block_lt_of_cell? _ _ (hHeld.2.2.2.2.2.2.2))).trans (hHeld.2.2.2.2.2.2.2)
            refine ⟨_, rfl, ?_⟩
            have n0_ := am (Kd.R_below (ru HO_5.out) hb)
            have n1_ := am (below_step (bu HB.out) hb)
            clear HO_5
            clear HB
            have HO_5 := n0_
            have HB := n1_
            clear n0_ n1_
            (try clear hb)
            (try clear hb2)
            (try clear hk)
            (try clear hi)
            refine hK.out _ _ ⟨HS0_, HS1_, HS2_, HS3_, HS4_, HS5_, HS6_, HS7_⟩ (fun hHeld => ?_)
            clear hK K
            refine norm_ (a' := ?_) ?_ ?_
            rotate_left
            ·show Act.put _ (some 35) _ = _
             simp only [Act.put, sA, sZ, sS, i64_w, i32_w]
             rfl
            refine pz 10 (some 25) #[T,T,T,T,T,T,T,T,T,T,T,F,F,F,F] (any_of HT_.out (by kernel_rfl)) (h := ?_)
            refine pz 11 (some 36) #[T,T,T,T,T,T,T,T,T,T,T,T,F,F,F] (any_of HT_.out (by kernel_rfl)) (h := ?_)
            refine pz 12 (some 37) #[T,T,T,T,T,T,T,T,T,T,T,T,T,F,F] (any_of HT_.out (by kernel_rfl)) (h := ?_)
            refine pz 13 (some 9) #[T,T,T,T,T,T,T,T,T,T,T,T,T,T,F] (any_of HT_.out (by kernel_rfl)) (h := ?_)
            refine pz 14 (some 10) #[T,T,T,T,T,T,T,T,T,T,T,T,T,T,T] (any_of HT_.out (by kernel_rfl)) (h := ?_)
            refine done_ (done_of HT_.out (by kernel_rfl)) ?_
            have p119 : 0 ≤ ((ji7) : Int) := od
            have q119 : (ji7) < (t111.length : Int) := od
            obtain ⟨ad119, e119, hx119_0, hx119_1, hx119_2, hx119_3⟩ := at_T85 (Kd.R_reads' HO_5.out).2.2 (ji7) p119 q119
            obtain rfl : ad115 = ad119 := (by injection e119)
            replace p119 := eq_true p119
            replace q119 := eq_true q119
            try go_wp2_with (first | (go_at_call 69; (with_reducible refine (impl_soundPair_concord.calls k1 ((rd_T85 t111 (ji7)).f0.f0) ((rd_T85 t111 (ji7)).f0.f1) ((rd_T85 t111 (ji7)).f1.f0) ((rd_T85 t111 (ji7)).f1.f1) true _ ?side1 ?side2 A17.out).mono ?_); (case side1 => first | exact HTH.out | exact TabAt.below HTH.out (bu HB.out)); (case side2 => first | exact HTI.out | exact TabAt.below HTI.out (bu HB.out)); rintro e w24 ⟨rfl, hb⟩; have n0_ := am (Kd.R_below (ru HO_5.out) hb); have n1_ := am (below_step (bu HB.out) hb); clear HO_5; clear HB; have HO_5 := n0_; have HB := n1_; clear n0_ n1_; (try clear hb); (try clear hb2); (try clear hk); (try clear hi); have p121 : 0 ≤ (x8_1 : Int) := od; have q121 : x8_1 < (t111.length : Int) := od; obtain ⟨ad121, e121, hx121_0, hx121_1, hx121_2, hx121_3⟩ := at_T85 (Kd.R_reads' HO_5.out).2.2 x8_1 p121 q121; obtain rfl : ad115 = ad121 := (by injection e121); replace p121 := eq_true p121; replace q121 := eq_true q121) | (go_at_call 69; (with_reducible refine (impl_soundPair_concord.calls k1 ((rd_T85 t111 x8_1).f0.f0) ((rd_T85 t111 x8_1).f0.f1) ((rd_T85 t111 x8_1).f1.f0) ((rd_T85 t111 x8_1).f1.f1) true _ ?side1 ?side2 A19.out).mono ?_); (case side1 => first | exact HTH.out | exact TabAt.below HTH.out (bu HB.out)); (case side2 => first | exact HTI.out | exact TabAt.below HTI.out (bu HB.out)); rintro e w25 ⟨rfl, hb⟩; have n0_ := am (Kd.R_below (ru HO_5.out) hb); have n1_ := am (below_step (bu HB.out) hb); clear HO_5; clear HB; have HO_5 := n0_; have HB := n1_; clear n0_ n1_; (try clear hb); (try clear hb2); (try clear hk); (try clear hi)))
            go_roundg k1
            case measure => have := HK1.out; omega
            case rel => exact ⟨(wrap64 (x7_1 + 1)), (wrap64 (x8_1 + 1)), (by first | rfl | (simp; done) | (simp [*]; done)), (by first | rfl | (simp; done) | (simp [*]; done)), H', ⟨by have := HK1.out; omega⟩, ⟨ru HO_5.out⟩, ⟨bu HB.out⟩⟩
           ·replace c20 := Bool.eq_false_iff.mpr c20
            subst c20
            have H1 : (impl_DiscantParallels.l0 k1 t111 x7_1 (wrap64 (x8_1 + 1))) = some r := by rw [if_neg (show ¬ (false = true) by decide)] at H; exact H
            clear H
            have H := H1
            clear H1
            have H' := am H
            clear H
            obtain ⟨Ao26, co26, eo26⟩ := Kd.R_slice HO_5.out
            subst eo26
            try go_wp2
            have n0_ := am (Kd.R_drew HO_5.out)
            have n1_ := am (below_drew1 HB.out)
            clear HO_5
            clear HB
            have HO_5 := n0_
            have HB := n1_
            clear n0_ n1_
            have p115 : 0 ≤ ((ji7) : Int) := od
            have q115 : (ji7) < (t111.length : Int) := od
            obtain ⟨ad115, e115, hx115_0, hx115_1, hx115_2, hx115_3⟩ := at_T85 (Kd.R_reads' HO_5.out).2.2 (ji7) p115 q115
            cases e115
            replace p115 := eq_true p115
            replace q115 := eq_true q115
            have p116 : 0 ≤ (x8_1 : Int) := od
            have q116 : x8_1 < (t111.length : Int) := od
            obtain ⟨ad116, e116, hx116_0, hx116_1, hx116_2, hx116_3⟩ := at_T85 (Kd.R_reads' HO_5.out).2.2 x8_1 p116 q116
            obtain rfl : ad115 = ad116 := (by injection e116)
            replace p116 := eq_true p116
            replace q116 := eq_true q116
            refine start_ (n := 15) (S := fun w' => w'.cell? (ad115.add (((ji7)).toNat * 4)) = some (.int .i64 ((rd_T85 t111 (ji7)).f0.f0)) ∧ w'.cell? ⟨(ad115.add (((ji7)).toNat * 4)).block, (ad115.add (((ji7)).toNat * 4)).off + 1, none⟩ = some (.bool ((rd_T85 t111 (ji7)).f0.f1)) ∧ w'.cell? ⟨(ad115.add (((ji7)).toNat * 4)).block, (ad115.add (((ji7)).toNat * 4)).off + 2, none⟩ = some (.int .i64 ((rd_T85 t111 (ji7)).f1.f0)) ∧ w'.cell? ⟨(ad115.add (((ji7)).toNat * 4)).block, (ad115.add (((ji7)).toNat * 4)).off + 3, none⟩ = some (.bool ((rd_T85 t111 (ji7)).f1.f1)) ∧ w'.cell? (ad115.add ((x8_1).toNat * 4)) = some (.int .i64 ((rd_T85 t111 x8_1).f0.f0)) ∧ w'.cell? ⟨(ad115.add ((x8_1).toNat * 4)).block, (ad115.add ((x8_1).toNat * 4)).off + 1, none⟩ = some (.bool ((rd_T85 t111 x8_1).f0.f1)) ∧ w'.cell? ⟨(ad115.add ((x8_1).toNat * 4)).block, (ad115.add ((x8_1).toNat * 4)).off + 2, none⟩ = some (.int .i64 ((rd_T85 t111 x8_1).f1.f0)) ∧ w'.cell? ⟨(ad115.add ((x8_1).toNat * 4)).block, (ad115.add ((x8_1).toNat * 4)).off + 3, none⟩ = some (.bool ((rd_T85 t111 x8_1).f1.f1))) (ds := []) #[F,F,F,F,F,F,F,F,F,F,F,F,F,F,F] (by kernel_rfl) rfl rfl ⟨hx115_0, hx115_1, hx115_2, hx115_3, hx116_0, hx116_1, hx116_2, hx116_3⟩ (fun hHeld => ?_); refine with_tabW impl_DiscantParallels.tab8 impl_DiscantParallels.bits8 (fun HT_ HW_ => ?_)
            generalize wr.drew = w27 at HO_5 HB hx115_0 hx115_1 hx115_2 hx115_3 hx116_0 hx116_1 hx116_2 hx116_3 hHeld ⊢
            refine pz 0 (some 26) #[T,F,F,F,F,F,F,F,F,F,F,F,F,F,F] (any_of HT_.out (by kernel_rfl)) (h := ?_)
            refine pz 1 (some 27) #[T,T,F,F,F,F,F,F,F,F,F,F,F,F,F] (any_of HT_.out (by kernel_rfl)) (h := ?_)
            refine pz 2 (some 28) #[T,T,T,F,F,F,F,F,F,F,F,F,F,F,F] (any_of HT_.out (by kernel_rfl)) (h := ?_)
            refine pz 3 (some 29) #[T,T,T,T,F,F,F,F,F,F,F,F,F,F,F] (any_of HT_.out (by kernel_rfl)) (h := ?_)
            refine pz 5 (some 31) #[T,T,T,T,F,T,F,F,F,F,F,F,F,F,F] (any_of HT_.out (by kernel_rfl)) (h := ?_)
            refine pz 6 (some 32) #[T,T,T,T,F,T,T,F,F,F,F,F,F,F,F] (any_of HT_.out (by kernel_rfl)) (h := ?_)
            refine pz 7 (some 33) #[T,T,T,T,F,T,T,T,F,F,F,F,F,F,F] (any_of HT_.out (by kernel_rfl)) (h := ?_)
            refine tz hHeld 4 (some 30) #[T,T,T,T,T,T,T,T,F,F,F,F,F,F,F] (take_ofW HT_.out HW_.out (by kernel_rfl)) (h := ?_)
            refine tz hHeld 8 (some 34) #[T,T,T,T,T,T,T,T,T,F,F,F,F,F,F] (take_ofW HT_.out HW_.out (by kernel_rfl)) (h := ?_)
            refine one_ (i := 9) (N := some 35) #[T,T,T,T,T,T,T,T,T,T,F,F,F,F,F] rfl rfl (one_of HT_.out (by kernel_rfl)) (by decide) (fun K hK => ?_)
            refine goes_ Tryd.func80 (by kernel_rfl) rfl #[.agg #[.int .i64 ((rd_T85 t111 (ji7)).f0.f0), .bool ((rd_T85 t111 (ji7)).f0.f1), .int .i64 ((rd_T85 t111 (ji7)).f1.f0), .bool ((rd_T85 t111 (ji7)).f1.f1)], .agg #[.int .i64 ((rd_T85 t111 x8_1).f0.f0), .bool ((rd_T85 t111 x8_1).f0.f1), .int .i64 ((rd_T85 t111 x8_1).f1.f0), .bool ((rd_T85 t111 x8_1).f1.f1)]] (by rfl) rfl rfl (by (try simp only [List.map_toArray, List.map_cons, List.map_nil]); first | done | (simp only [hji7]; rfl) | rfl | (simp only [List.length_drop, List.length_take]; rfl)) ?_
            with_reducible refine (impl_soundPair_changesTo.calls ((rd_T85 t111 (ji7)).f0.f0) ((rd_T85 t111 (ji7)).f0.f1) ((rd_T85 t111 (ji7)).f1.f0) ((rd_T85 t111 (ji7)).f1.f1) ((rd_T85 t111 x8_1).f0.f0) ((rd_T85 t111 x8_1).f0.f1) ((rd_T85 t111 x8_1).f1.f0) ((rd_T85 t111 x8_1).f1.f1) t117 t118 _ A11.out).mono ?_
            rintro e w28 ⟨rfl, hb⟩
            have HS0_ := (hb.cell (World.block_lt_of_cell? _ _ (hHeld.1))).trans (hHeld.1)
            have HS1_ := (hb.cell (World.block_lt_of_cell? _ _ (hHeld.2.1))).trans (hHeld.2.1)
            have HS2_ := (hb.cell (World.block_lt_of_cell? _ _ (hHeld.2.2.1))).trans (hHeld.2.2.1)
            have HS3_ := (hb.cell (World.block_lt_of_cell? _ _ (hHeld.2.2.2.1))).trans (hHeld.2.2.2.1)
            have HS4_ := (hb.cell (World.block_lt_of_cell? _ _ (hHeld.2.2.2.2.1))).trans (hHeld.2.2.2.2.1)
            have HS5_ := (hb.cell (World.block_lt_of_cell? _ _ (hHeld.2.2.2.2.2.1))).trans (hHeld.2.2.2.2.2.1)
            have HS6_ := (hb.cell (World.block_lt_of_cell? _ _ (hHeld.2.2.2.2.2.2.1))).trans (hHeld.2.2.2.2.2.2.1)
            have HS7_ := (hb.cell (World.block_lt_of_cell? _ _ (hHeld.2.2.2.2.2.2.2))).trans (hHeld.2.2.2.2.2.2.2)
            refine ⟨_, rfl, ?_⟩
            have n0_ := am (Kd.R_below (ru HO_5.out) hb)
            have n1_ := am (below_step (bu HB.out) hb)
            clear HO_5
            clear HB
            have HO_5 := n0_
            have HB := n1_
            clear n0_ n1_
            (try clear hb)
            (try clear hb2)
            (try clear hk)
            (try clear hi)
            refine hK.out _ _ ⟨HS0_, HS1_, HS2_, HS3_, HS4_, HS5_, HS6_, HS7_⟩ (fun hHeld => ?_)
            clear hK K
            refine norm_ (a' := ?_) ?_ ?_
            rotate_left
            ·show Act.put _ (some 35) _ = _
             simp only [Act.put, sA, sZ, sS, i64_w, i32_w]
             rfl
            refine pz 10 (some 25) #[T,T,T,T,T,T,T,T,T,T,T,F,F,F,F] (any_of HT_.out (by kernel_rfl)) (h := ?_)
            refine pz 11 (some 36) #[T,T,T,T,T,T,T,T,T,T,T,T,F,F,F] (any_of HT_.out (by kernel_rfl)) (h := ?_)
            refine pz 12 (some 37) #[T,T,T,T,T,T,T,T,T,T,T,T,T,F,F] (any_of HT_.out (by kernel_rfl)) (h := ?_)
            refine pz 13 (some 9) #[T,T,T,T,T,T,T,T,T,T,T,T,T,T,F] (any_of HT_.out (by kernel_rfl)) (h := ?_)
            refine pz 14 (some 10) #[T,T,T,T,T,T,T,T,T,T,T,T,T,T,T] (any_of HT_.out (by kernel_rfl)) (h := ?_)
            refine done_ (done_of HT_.out (by kernel_rfl)) ?_
            have p119 : 0 ≤ ((ji7) : Int) := od
            have q119 : (ji7) < (t111.length : Int) := od
            obtain ⟨ad119, e119, hx119_0, hx119_1, hx119_2, hx119_3⟩ := at_T85 (Kd.R_reads' HO_5.out).2.2 (ji7) p119 q119
            obtain rfl : ad115 = ad119 := (by injection e119)
            replace p119 := eq_true p119
            replace q119 := eq_true q119
            try go_wp2_with (first | (go_at_call 69; (with_reducible refine (impl_soundPair_concord.calls k1 ((rd_T85 t111 (ji7)).f0.f0) ((rd_T85 t111 (ji7)).f0.f1) ((rd_T85 t111 (ji7)).f1.f0) ((rd_T85 t111 (ji7)).f1.f1) true _ ?side1 ?side2 A17.out).mono ?_); (case side1 => first | exact HTH.out | exact TabAt.below HTH.out (bu HB.out)); (case side2 => first | exact HTI.out | exact TabAt.below HTI.out (bu HB.out)); rintro e w29 ⟨rfl, hb⟩; have n0_ := am (Kd.R_below (ru HO_5.out) hb); have n1_ := am (below_step (bu HB.out) hb); clear HO_5; clear HB; have HO_5 := n0_; have HB := n1_; clear n0_ n1_; (try clear hb); (try clear hb2); (try clear hk); (try clear hi); have p121 : 0 ≤ (x8_1 : Int) := od; have q121 : x8_1 < (t111.length : Int) := od; obtain ⟨ad121, e121, hx121_0, hx121_1, hx121_2, hx121_3⟩ := at_T85 (Kd.R_reads' HO_5.out).2.2 x8_1 p121 q121; obtain rfl : ad115 = ad121 := (by injection e121); replace p121 := eq_true p121; replace q121 := eq_true q121) | (go_at_call 69; (with_reducible refine (impl_soundPair_concord.calls k1 ((rd_T85 t111 x8_1).f0.f0) ((rd_T85 t111 x8_1).f0.f1) ((rd_T85 t111 x8_1).f1.f0) ((rd_T85 t111 x8_1).f1.f1) false _ ?side1 ?side2 A19.out).mono ?_); (case side1 => first | exact HTH.out | exact TabAt.below HTH.out (bu HB.out)); (case side2 => first | exact HTI.out | exact TabAt.below HTI.out (bu HB.out)); rintro e w30 ⟨rfl, hb⟩; have n0_ := am (Kd.R_below (ru HO_5.out) hb); have n1_ := am (below_step (bu HB.out) hb); clear HO_5; clear HB; have HO_5 := n0_; have HB := n1_; clear n0_ n1_; (try clear hb); (try clear hb2); (try clear hk); (try clear hi)))
            go_roundg k1
            case measure => have := HK1.out; omega
            case rel => exact ⟨(x7_1), (wrap64 (x8_1 + 1)), (by first | rfl | (simp; done) | (simp [*]; done)), (by first | rfl | (simp; done) | (simp [*]; done)), H', ⟨by have := HK1.out; omega⟩, ⟨ru HO_5.out⟩, ⟨bu HB.out⟩⟩
          ·replace c18 := Bool.eq_false_iff.mpr c18
           subst c18
           have H1 : (impl_DiscantParallels.l0 k1 t111 x7_1 (wrap64 (x8_1 + 1))) = some r := by rw [if_neg (show ¬ (false = true) by decide)] at H; exact H
           clear H
           have H := H1
           clear H1
           have H' := am H
           clear H
           obtain ⟨Ao31, co31, eo31⟩ := Kd.R_slice HO_5.out
           subst eo31
           try go_wp2
           have n0_ := am (Kd.R_drew HO_5.out)
           have n1_ := am (below_drew1 HB.out)
           clear HO_5
           clear HB
           have HO_5 := n0_
           have HB := n1_
           clear n0_ n1_
           have p115 : 0 ≤ ((ji7) : Int) := od
           have q115 : (ji7) < (t111.length : Int) := od
           obtain ⟨ad115, e115, hx115_0, hx115_1, hx115_2, hx115_3⟩ := at_T85 (Kd.R_reads' HO_5.out).2.2 (ji7) p115 q115
           cases e115
           replace p115 := eq_true p115
           replace q115 := eq_true q115
           have p116 : 0 ≤ (x8_1 : Int) := od
           have q116 : x8_1 < (t111.length : Int) := od
           obtain ⟨ad116, e116, hx116_0, hx116_1, hx116_2, hx116_3⟩ := at_T85 (Kd.R_reads' HO_5.out).2.2 x8_1 p116 q116
           obtain rfl : ad115 = ad116 := (by injection e116)
           replace p116 := eq_true p116
           replace q116 := eq_true q116
           refine start_ (n := 15) (S := fun w' => w'.cell? (ad115.add (((ji7)).toNat * 4)) = some (.int .i64 ((rd_T85 t111 (ji7)).f0.f0)) ∧ w'.cell? ⟨(ad115.add (((ji7)).toNat * 4)).block, (ad115.add (((ji7)).toNat * 4)).off + 1, none⟩ = some (.bool ((rd_T85 t111 (ji7)).f0.f1)) ∧ w'.cell? ⟨(ad115.add (((ji7)).toNat * 4)).block, (ad115.add (((ji7)).toNat * 4)).off + 2, none⟩ = some (.int .i64 ((rd_T85 t111 (ji7)).f1.f0)) ∧ w'.cell? ⟨(ad115.add (((ji7)).toNat * 4)).block, (ad115.add (((ji7)).toNat * 4)).off + 3, none⟩ = some (.bool ((rd_T85 t111 (ji7)).f1.f1)) ∧ w'.cell? (ad115.add ((x8_1).toNat * 4)) = some (.int .i64 ((rd_T85 t111 x8_1).f0.f0)) ∧ w'.cell? ⟨(ad115.add ((x8_1).toNat * 4)).block, (ad115.add ((x8_1).toNat * 4)).off + 1, none⟩ = some (.bool ((rd_T85 t111 x8_1).f0.f1)) ∧ w'.cell? ⟨(ad115.add ((x8_1).toNat * 4)).block, (ad115.add ((x8_1).toNat * 4)).off + 2, none⟩ = some (.int .i64 ((rd_T85 t111 x8_1).f1.f0)) ∧ w'.cell? ⟨(ad115.add ((x8_1).toNat * 4)).block, (ad115.add ((x8_1).toNat * 4)).off + 3, none⟩ = some (.bool ((rd_T85 t111 x8_1).f1.f1))) (ds := []) #[F,F,F,F,F,F,F,F,F,F,F,F,F,F,F] (by kernel_rfl) rfl rfl ⟨hx115_0, hx115_1, hx115_2, hx115_3, hx116_0, hx116_1, hx116_2, hx116_3⟩ (fun hHeld => ?_); refine with_tabW impl_DiscantParallels.tab8 impl_DiscantParallels.bits8 (fun HT_ HW_ => ?_)
           generalize wr.drew = w32 at HO_5 HB hx115_0 hx115_1 hx115_2 hx115_3 hx116_0 hx116_1 hx116_2 hx116_3 hHeld ⊢
           refine pz 0 (some 26) #[T,F,F,F,F,F,F,F,F,F,F,F,F,F,F] (any_of HT_.out (by kernel_rfl)) (h := ?_)
           refine pz 1 (some 27) #[T,T,F,F,F,F,F,F,F,F,F,F,F,F,F] (any_of HT_.out (by kernel_rfl)) (h := ?_)
           refine pz 2 (some 28) #[T,T,T,F,F,F,F,F,F,F,F,F,F,F,F] (any_of HT_.out (by kernel_rfl)) (h := ?_)
           refine pz 3 (some 29) #[T,T,T,T,F,F,F,F,F,F,F,F,F,F,F] (any_of HT_.out (by kernel_rfl)) (h := ?_)
           refine pz 5 (some 31) #[T,T,T,T,F,T,F,F,F,F,F,F,F,F,F] (any_of HT_.out (by kernel_rfl)) (h := ?_)
           refine pz 6 (some 32) #[T,T,T,T,F,T,T,F,F,F,F,F,F,F,F] (any_of HT_.out (by kernel_rfl)) (h := ?_)
           refine pz 7 (some 33) #[T,T,T,T,F,T,T,T,F,F,F,F,F,F,F] (any_of HT_.out (by kernel_rfl)) (h := ?_)
           refine tz hHeld 4 (some 30) #[T,T,T,T,T,T,T,T,F,F,F,F,F,F,F] (take_ofW HT_.out HW_.out (by kernel_rfl)) (h := ?_)
           refine tz hHeld 8 (some 34) #[T,T,T,T,T,T,T,T,T,F,F,F,F,F,F] (take_ofW HT_.out HW_.out (by kernel_rfl)) (h := ?_)
           refine one_ (i := 9) (N := some 35) #[T,T,T,T,T,T,T,T,T,T,F,F,F,F,F] rfl rfl (one_of HT_.out (by kernel_rfl)) (by decide) (fun K hK => ?_)
           refine goes_ Tryd.func80 (by kernel_rfl) rfl #[.agg #[.int .i64 ((rd_T85 t111 (ji7)).f0.f0), .bool ((rd_T85 t111 (ji7)).f0.f1), .int .i64 ((rd_T85 t111 (ji7)).f1.f0), .bool ((rd_T85 t111 (ji7)).f1.f1)], .agg #[.int .i64 ((rd_T85 t111 x8_1).f0.f0), .bool ((rd_T85 t111 x8_1).f0.f1), .int .i64 ((rd_T85 t111 x8_1).f1.f0), .bool ((rd_T85 t111 x8_1).f1.f1)]] (by rfl) rfl rfl (by (try simp only [List.map_toArray, List.map_cons, List.map_nil]); first | done | (simp only [hji7]; rfl) | rfl | (simp only [List.length_drop, List.length_take]; rfl)) ?_
           with_reducible refine (impl_soundPair_changesTo.calls ((rd_T85 t111 (ji7)).f0.f0) ((rd_T85 t111 (ji7)).f0.f1) ((rd_T85 t111 (ji7)).f1.f0) ((rd_T85 t111 (ji7)).f1.f1) ((rd_T85 t111 x8_1).f0.f0) ((rd_T85 t111 x8_1).f0.f1) ((rd_T85 t111 x8_1).f1.f0) ((rd_T85 t111 x8_1).f1.f1) t117 t118 _ A11.out).mono ?_
           rintro e w33 ⟨rfl, hb⟩
           have HS0_ := (hb.cell (World.block_lt_of_cell? _ _ (hHeld.1))).trans (hHeld.1)
           have HS1_ := (hb.cell (World.block_lt_of_cell? _ _ (hHeld.2.1))).trans (hHeld.2.1)
           have HS2_ := (hb.cell (World.block_lt_of_cell? _ _ (hHeld.2.2.1))).trans (hHeld.2.2.1)
           have HS3_ := (hb.cell (World.block_lt_of_cell? _ _ (hHeld.2.2.2.1))).trans (hHeld.2.2.2.1)
           have HS4_ := (hb.cell (World.block_lt_of_cell? _ _ (hHeld.2.2.2.2.1))).trans (hHeld.2.2.2.2.1)
           have HS5_ := (hb.cell (World.block_lt_of_cell? _ _ (hHeld.2.2.2.2.2.1))).trans (hHeld.2.2.2.2.2.1)
           have HS6_ := (hb.cell (World.block_lt_of_cell? _ _ (hHeld.2.2.2.2.2.2.1))).trans (hHeld.2.2.2.2.2.2.1)
           have HS7_ := (hb.cell (World.block_lt_of_cell? _ _ (hHeld.2.2.2.2.2.2.2))).trans (hHeld.2.2.2.2.2.2.2)
           refine ⟨_, rfl, ?_⟩
           have n0_ := am (Kd.R_below (ru HO_5.out) hb)
           have n1_ := am (below_step (bu HB.out) hb)
           clear HO_5
           clear HB
           have HO_5 := n0_
           have HB := n1_
           clear n0_ n1_
           (try clear hb)
           (try clear hb2)
           (try clear hk)
           (try clear hi)
           refine hK.out _ _ ⟨HS0_, HS1_, HS2_, HS3_, HS4_, HS5_, HS6_, HS7_⟩ (fun hHeld => ?_)
           clear hK K
           refine norm_ (a' := ?_) ?_ ?_
           rotate_left
           ·show Act.put _ (some 35) _ = _
            simp only [Act.put, sA, sZ, sS, i64_w, i32_w]
            rfl
           refine pz 10 (some 25) #[T,T,T,T,T,T,T,T,T,T,T,F,F,F,F] (any_of HT_.out (by kernel_rfl)) (h := ?_)
           refine pz 11 (some 36) #[T,T,T,T,T,T,T,T,T,T,T,T,F,F,F] (any_of HT_.out (by kernel_rfl)) (h := ?_)
           refine pz 12 (some 37) #[T,T,T,T,T,T,T,T,T,T,T,T,T,F,F] (any_of HT_.out (by kernel_rfl)) (h := ?_)
           refine pz 13 (some 9) #[T,T,T,T,T,T,T,T,T,T,T,T,T,T,F] (any_of HT_.out (by kernel_rfl)) (h := ?_)
           refine pz 14 (some 10) #[T,T,T,T,T,T,T,T,T,T,T,T,T,T,T] (any_of HT_.out (by kernel_rfl)) (h := ?_)
           refine done_ (done_of HT_.out (by kernel_rfl)) ?_
           have p119 : 0 ≤ ((ji7) : Int) := od
           have q119 : (ji7) < (t111.length : Int) := od
           obtain ⟨ad119, e119, hx119_0, hx119_1, hx119_2, hx119_3⟩ := at_T85 (Kd.R_reads' HO_5.out).2.2 (ji7) p119 q119
           obtain rfl : ad115 = ad119 := (by injection e119)
           replace p119 := eq_true p119
           replace q119 := eq_true q119
           try go_wp2_with (first | (go_at_call 69; (with_reducible refine (impl_soundPair_concord.calls k1 ((rd_T85 t111 (ji7)).f0.f0) ((rd_T85 t111 (ji7)).f0.f1) ((rd_T85 t111 (ji7)).f1.f0) ((rd_T85 t111 (ji7)).f1.f1) false _ ?side1 ?side2 A17.out).mono ?_); (case side1 => first | exact HTH.out | exact TabAt.below HTH.out (bu HB.out)); (case side2 => first | exact HTI.out | exact TabAt.below HTI.out (bu HB.out)); rintro e w34 ⟨rfl, hb⟩; have n0_ := am (Kd.R_below (ru HO_5.out) hb); have n1_ := am (below_step (bu HB.out) hb); clear HO_5; clear HB; have HO_5 := n0_; have HB := n1_; clear n0_ n1_; (try clear hb); (try clear hb2); (try clear hk); (try clear hi)))
           go_roundg k1
           case measure => have := HK1.out; omega
           case rel => exact ⟨(x7_1), (wrap64 (x8_1 + 1)), (by first | rfl | (simp; done) | (simp [*]; done)), (by first | rfl | (simp; done) | (simp [*]; done)), H', ⟨by have := HK1.out; omega⟩, ⟨ru HO_5.out⟩, ⟨bu HB.out⟩⟩
         ·rw [if_neg c16] at H
          have c16b0 : (t117 == t118) = false := beq_eq_false_iff_ne.mpr c16
          have c16b1 : (t117 != t118) = true := bne_iff_ne.mpr c16
          have H' := am H
          clear H
          obtain ⟨Ao35, co35, eo35⟩ := Kd.R_slice HO_5.out
          subst eo35
          try go_wp2
          have n0_ := am (Kd.R_drew HO_5.out)
          have n1_ := am (below_drew1 HB.out)
          clear HO_5
          clear HB
          have HO_5 := n0_
          have HB := n1_
          clear n0_ n1_
          have p115 : 0 ≤ ((ji7) : Int) := od
          have q115 : (ji7) < (t111.length : Int) := od
          obtain ⟨ad115, e115, hx115_0, hx115_1, hx115_2, hx115_3⟩ := at_T85 (Kd.R_reads' HO_5.out).2.2 (ji7) p115 q115
          cases e115
          replace p115 := eq_true p115
          replace q115 := eq_true q115
          have p116 : 0 ≤ (x8_1 : Int) := od
          have q116 : x8_1 < (t111.length : Int) := od
          obtain ⟨ad116, e116, hx116_0, hx116_1, hx116_2, hx116_3⟩ := at_T85 (Kd.R_reads' HO_5.out).2.2 x8_1 p116 q116
          obtain rfl : ad115 = ad116 := (by injection e116)
          replace p116 := eq_true p116
          replace q116 := eq_true q116
          refine start_ (n := 15) (S := fun w' => w'.cell? (ad115.add (((ji7)).toNat * 4)) = some (.int .i64 ((rd_T85 t111 (ji7)).f0.f0)) ∧ w'.cell? ⟨(ad115.add (((ji7)).toNat * 4)).block, (ad115.add (((ji7)).toNat * 4)).off + 1, none⟩ = some (.bool ((rd_T85 t111 (ji7)).f0.f1)) ∧ w'.cell? ⟨(ad115.add (((ji7)).toNat * 4)).block, (ad115.add (((ji7)).toNat * 4)).off + 2, none⟩ = some (.int .i64 ((rd_T85 t111 (ji7)).f1.f0)) ∧ w'.cell? ⟨(ad115.add (((ji7)).toNat * 4)).block, (ad115.add (((ji7)).toNat * 4)).off + 3, none⟩ = some (.bool ((rd_T85 t111 (ji7)).f1.f1)) ∧ w'.cell? (ad115.add ((x8_1).toNat * 4)) = some (.int .i64 ((rd_T85 t111 x8_1).f0.f0)) ∧ w'.cell? ⟨(ad115.add ((x8_1).toNat * 4)).block, (ad115.add ((x8_1).toNat * 4)).off + 1, none⟩ = some (.bool ((rd_T85 t111 x8_1).f0.f1)) ∧ w'.cell? ⟨(ad115.add ((x8_1).toNat * 4)).block, (ad115.add ((x8_1).toNat * 4)).off + 2, none⟩ = some (.int .i64 ((rd_T85 t111 x8_1).f1.f0)) ∧ w'.cell? ⟨(ad115.add ((x8_1).toNat * 4)).block, (ad115.add ((x8_1).toNat * 4)).off + 3, none⟩ = some (.bool ((rd_T85 t111 x8_1).f1.f1))) (ds := []) #[F,F,F,F,F,F,F,F,F,F,F,F,F,F,F] (by kernel_rfl) rfl rfl ⟨hx115_0, hx115_1, hx115_2, hx115_3, hx116_0, hx116_1, hx116_2, hx116_3⟩ (fun hHeld => ?_); refine with_tabW impl_DiscantParallels.tab8 impl_DiscantParallels.bits8 (fun HT_ HW_ => ?_)
          generalize wr.drew = w36 at HO_5 HB hx115_0 hx115_1 hx115_2 hx115_3 hx116_0 hx116_1 hx116_2 hx116_3 hHeld ⊢
          refine pz 0 (some 26) #[T,F,F,F,F,F,F,F,F,F,F,F,F,F,F] (any_of HT_.out (by kernel_rfl)) (h := ?_)
          refine pz 1 (some 27) #[T,T,F,F,F,F,F,F,F,F,F,F,F,F,F] (any_of HT_.out (by kernel_rfl)) (h := ?_)
          refine pz 2 (some 28) #[T,T,T,F,F,F,F,F,F,F,F,F,F,F,F] (any_of HT_.out (by kernel_rfl)) (h := ?_)
          refine pz 3 (some 29) #[T,T,T,T,F,F,F,F,F,F,F,F,F,F,F] (any_of HT_.out (by kernel_rfl)) (h := ?_)
          refine pz 5 (some 31) #[T,T,T,T,F,T,F,F,F,F,F,F,F,F,F] (any_of HT_.out (by kernel_rfl)) (h := ?_)
          refine pz 6 (some 32) #[T,T,T,T,F,T,T,F,F,F,F,F,F,F,F] (any_of HT_.out (by kernel_rfl)) (h := ?_)
          refine pz 7 (some 33) #[T,T,T,T,F,T,T,T,F,F,F,F,F,F,F] (any_of HT_.out (by kernel_rfl)) (h := ?_)
          refine tz hHeld 4 (some 30) #[T,T,T,T,T,T,T,T,F,F,F,F,F,F,F] (take_ofW HT_.out HW_.out (by kernel_rfl)) (h := ?_)
          refine tz hHeld 8 (some 34) #[T,T,T,T,T,T,T,T,T,F,F,F,F,F,F] (take_ofW HT_.out HW_.out (by kernel_rfl)) (h := ?_)
          refine one_ (i := 9) (N := some 35) #[T,T,T,T,T,T,T,T,T,T,F,F,F,F,F] rfl rfl (one_of HT_.out (by kernel_rfl)) (by decide) (fun K hK => ?_)
          refine goes_ Tryd.func80 (by kernel_rfl) rfl #[.agg #[.int .i64 ((rd_T85 t111 (ji7)).f0.f0), .bool ((rd_T85 t111 (ji7)).f0.f1), .int .i64 ((rd_T85 t111 (ji7)).f1.f0), .bool ((rd_T85 t111 (ji7)).f1.f1)], .agg #[.int .i64 ((rd_T85 t111 x8_1).f0.f0), .bool ((rd_T85 t111 x8_1).f0.f1), .int .i64 ((rd_T85 t111 x8_1).f1.f0), .bool ((rd_T85 t111 x8_1).f1.f1)]] (by rfl) rfl rfl (by (try simp only [List.map_toArray, List.map_cons, List.map_nil]); first | done | (simp only [hji7]; rfl) | rfl | (simp only [List.length_drop, List.length_take]; rfl)) ?_
          with_reducible refine (impl_soundPair_changesTo.calls ((rd_T85 t111 (ji7)).f0.f0) ((rd_T85 t111 (ji7)).f0.f1) ((rd_T85 t111 (ji7)).f1.f0) ((rd_T85 t111 (ji7)).f1.f1) ((rd_T85 t111 x8_1).f0.f0) ((rd_T85 t111 x8_1).f0.f1) ((rd_T85 t111 x8_1).f1.f0) ((rd_T85 t111 x8_1).f1.f1) t117 t118 _ A11.out).mono ?_
          rintro e w37 ⟨rfl, hb⟩
          have HS0_ := (hb.cell (World.block_lt_of_cell? _ _ (hHeld.1))).trans (hHeld.1)
          have HS1_ := (hb.cell (World.block_lt_of_cell? _ _ (hHeld.2.1))).trans (hHeld.2.1)
          have HS2_ := (hb.cell (World.block_lt_of_cell? _ _ (hHeld.2.2.1))).trans (hHeld.2.2.1)
          have HS3_ := (hb.cell (World.block_lt_of_cell? _ _ (hHeld.2.2.2.1))).trans (hHeld.2.2.2.1)
          have HS4_ := (hb.cell (World.block_lt_of_cell? _ _ (hHeld.2.2.2.2.1))).trans (hHeld.2.2.2.2.1)
          have HS5_ := (hb.cell (World.block_lt_of_cell? _ _ (hHeld.2.2.2.2.2.1))).trans (hHeld.2.2.2.2.2.1)
          have HS6_ := (hb.cell (World.block_lt_of_cell? _ _ (hHeld.2.2.2.2.2.2.1))).trans (hHeld.2.2.2.2.2.2.1)
          have HS7_ := (hb.cell (World.block_lt_of_cell? _ _ (hHeld.2.2.2.2.2.2.2))).trans (hHeld.2.2.2.2.2.2.2)
          refine ⟨_, rfl, ?_⟩
          have n0_ := am (Kd.R_below (ru HO_5.out) hb)
          have n1_ := am (below_step (bu HB.out) hb)
          clear HO_5
          clear HB
          have HO_5 := n0_
          have HB := n1_
          clear n0_ n1_
          (try clear hb)
          (try clear hb2)
          (try clear hk)
          (try clear hi)
          refine hK.out _ _ ⟨HS0_, HS1_, HS2_, HS3_, HS4_, HS5_, HS6_, HS7_⟩ (fun hHeld => ?_)
          clear hK K
          refine norm_ (a' := ?_) ?_ ?_
          rotate_left
          ·show Act.put _ (some 35) _ = _
           simp only [Act.put, sA, sZ, sS, i64_w, i32_w]
           rfl
          refine pz 10 (some 25) #[T,T,T,T,T,T,T,T,T,T,T,F,F,F,F] (any_of HT_.out (by kernel_rfl)) (h := ?_)
          refine pz 11 (some 36) #[T,T,T,T,T,T,T,T,T,T,T,T,F,F,F] (any_of HT_.out (by kernel_rfl)) (h := ?_)
          refine pz 12 (some 37) #[T,T,T,T,T,T,T,T,T,T,T,T,T,F,F] (any_of HT_.out (by kernel_rfl)) (h := ?_)
          refine pz 13 (some 9) #[T,T,T,T,T,T,T,T,T,T,T,T,T,T,F] (any_of HT_.out (by kernel_rfl)) (h := ?_)
          refine pz 14 (some 10) #[T,T,T,T,T,T,T,T,T,T,T,T,T,T,T] (any_of HT_.out (by kernel_rfl)) (h := ?_)
          refine done_ (done_of HT_.out (by kernel_rfl)) ?_
          try go_wp2
          go_roundg k1
          case measure => have := HK1.out; omega
          case rel => exact ⟨(x7_1), (wrap64 (x8_1 + 1)), (by first | rfl | (simp; done) | (simp [*]; done)), (by first | rfl | (simp; done) | (simp [*]; done)), H', ⟨by have := HK1.out; omega⟩, ⟨ru HO_5.out⟩, ⟨bu HB.out⟩⟩
       ·rw [if_neg c10] at H
        exact absurd H (by simp)
      ·rw [if_neg c9] at H
       exact absurd H (by simp)
     ·rw [if_neg c8] at H
      exact absurd H (by simp)
    ·rw [if_neg c6] at H
     have c6b0 : decide (x8_1 < (t111.length : Int)) = false := decide_eq_false c6
     clear c6
     obtain rfl := Option.some.inj H
     obtain ⟨Ao38, co38, eo38⟩ := Kd.R_slice HO_5.out
     subst eo38
     go_wp2
     go_ret
     exact ⟨by first | rfl | (simp [errW_none, errW_some] <;> rfl) | (simp [*, errW_none, errW_some] <;> rfl), bu HB.out⟩
 ·replace c4 := Bool.eq_false_iff.mpr c4
  subst c4
  have H1 : (some (-1)) = some r := by rw [if_neg (show ¬ (false = true) by decide)] at H; exact H
  clear H
  have H := H1
  clear H1
  obtain rfl := Option.some.inj H
  go_enter Tryd.func22, Tryd.ntmps22
  go_wp2_with (first | ((with_reducible refine gate_callee (f := 68) rfl ?_); refine goesL_ (some 14) rfl rfl Tryd.func68 (by kernel_rfl) rfl #[.slice A0 l0.length c0, .slice A1 l1.length c1] rfl (by (try simp only [List.map_toArray, List.map_cons, List.map_nil]); first | done | rfl | (simp only [List.length_drop, List.length_take]; rfl)) ?_; (with_reducible refine (impl_soundsOf.calls k _ _ l0 _ _ l1 t111 false _ ?side1 ?side2 ?side3 ?side4 A3.out).mono ?_); (case side1 => exact cu HR0.out); (case side2 => exact HC0.out); (case side3 => exact cu HR1.out); (case side4 => exact HC1.out); rintro e w39 ⟨v113, rfl, ho0, hb⟩; refine ⟨_, rfl, ?_⟩; have n0_ := am (Kd.R_lower ho0 (below_size (bu HB.out))); have n1_ := am (below_step (bu HB.out) hb); clear HB; have HO114 := n0_; have HB := n1_; clear n0_ n1_; (try clear hb); (try clear hb2); (try clear hk); (try clear hi); (try clear ho0)))
  go_ret
  exact ⟨by first | rfl | (simp [errW_none, errW_some] <;> rfl) | (simp [*, errW_none, errW_some] <;> rfl), bu HB.out⟩

end Go.Proofs.YtcndojoghmblaaaDoor.GD
