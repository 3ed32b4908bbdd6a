-- Made by this session's gprint.py out of the translation. Not trusted: Lean checks it.
import Derived.Test.YtjefoedojglhpaaDoorSTx0
import Derived.Test.YtjefoedojglhpaaDoorSTx3
namespace Go.Proofs.YtjefoedojglhpaaDoor.ST
open Go.RowKit Go.Proofs.YtjefoedojglhpaaDoorW.PrintWords Go.Proofs.YtjefoedojglhpaaDoorW.PrintLast Go.Proofs.YtjefoedojglhpaaDoorW.PrintMore
attribute [local go_sem] max2_int min2_int max_two min_two max_three min_three max_four min_four   -- for this text's walks alone
set_option linter.unusedVariables false
set_option linter.unusedSimpArgs false

/-! ### spec_SingText: function 47 -/
def spec_SingText.l0 : Nat → List (S25) → List Int → ByteArray → Int → Option (ByteArray)
 | 0, _, _, _, _ => none
 | k + 1, x0, x1, x5, x6 => if x6 < (x0.length : Int) then (if x6 > 0 then (if x5.size + 1 ≤ 9223372036854775807 then ((some (([(⟨#[117, 116]⟩ : ByteArray), (⟨#[114, 101]⟩ : ByteArray), (⟨#[109, 105]⟩ : ByteArray), (⟨#[102, 97]⟩ : ByteArray), (⟨#[115, 111, 108]⟩ : ByteArray), (⟨#[108, 97]⟩ : ByteArray)] : List ByteArray) : List ByteArray)).bind fun y145 => (if 0 ≤ x6 then (if x6 < (x1.length : Int) then ((spec_HexSyllable.f k (rd x1 x6) ((rd_T25 x0 x6).f0) ((rd_T25 x0 x6).f1)).bind fun t150 => (if 0 ≤ t150 then (if t150 < (y145.length : Int) then (if (x5 ++ (⟨#[32]⟩ : ByteArray)).size + (rdOf ByteArray.empty y145 t150).size ≤ 9223372036854775807 then (spec_SingText.l0 k x0 x1 ((x5 ++ (⟨#[32]⟩ : ByteArray)) ++ (rdOf ByteArray.empty y145 t150)) (wrap64 (x6 + 1))) else (none)) else (none)) else (none))) else (none)) else (none))) else (none)) else ((some (([(⟨#[117, 116]⟩ : ByteArray), (⟨#[114, 101]⟩ : ByteArray), (⟨#[109, 105]⟩ : ByteArray), (⟨#[102, 97]⟩ : ByteArray), (⟨#[115, 111, 108]⟩ : ByteArray), (⟨#[108, 97]⟩ : ByteArray)] : List ByteArray) : List ByteArray)).bind fun y152 => (if 0 ≤ x6 then (if x6 < (x1.length : Int) then ((spec_HexSyllable.f k (rd x1 x6) ((rd_T25 x0 x6).f0) ((rd_T25 x0 x6).f1)).bind fun t157 => (if 0 ≤ t157 then (if t157 < (y152.length : Int) then (if x5.size + (rdOf ByteArray.empty y152 t157).size ≤ 9223372036854775807 then (spec_SingText.l0 k x0 x1 (x5 ++ (rdOf ByteArray.empty y152 t157)) (wrap64 (x6 + 1))) else (none)) else (none)) else (none))) else (none)) else (none)))) else (some x5)
def spec_SingText.f (k : Nat) (l0 : List (S25)) (l1 : List Int) : Option (ByteArray) := (spec_SingOk.f k l0 l1).bind fun t144 => (if t144 = true then (spec_SingText.l0 k l0 l1 (⟨#[]⟩ : ByteArray) 0) else (some (⟨#[]⟩ : ByteArray)))
def spec_SingText.T9 : Bool × List (List Nat × List Nat) := (true, [([], []), ([], []), ([], []), ([], []), ([2, 3], [2, 3]), ([4], [4]), ([], []), ([], []), ([6, 7], [6, 7]), ([8], [8]), ([5, 9], [5, 9]), ([1, 10], [1, 10]), ([11], [11]), ([0, 12], [0, 12]), ([13, 10, 0, 1, 2, 3, 4, 5, 6, 7, 8, 9, 10, 11, 12, 13], [0, 13])])
def spec_SingText.B9 : List Nat := [0, 0, 0, 0, 12, 28, 0, 0, 192, 448, 1020, 2046, 4094, 8191, 16383]
theorem spec_SingText.tab9 : rtab .any (opsOf Tryd.f47 9) = spec_SingText.T9 := by kernel_rfl
theorem spec_SingText.bits9 : waitsOk spec_SingText.T9.2 spec_SingText.B9 = true := by kernel_rfl
set_option maxHeartbeats 8000000 in
set_option maxRecDepth 100000 in
theorem spec_SingText.calls (k : Nat) (A0 : Option Addr) (c0 : Nat) (l0 : List (S25)) (A1 : Option Addr) (c1 : Nat) (l1 : List Int) (r : ByteArray) (w : World) (hr0 : Kd.C k25 w A0 l0.length l0) (hc0 : l0.length ≤ c0) (hr1 : Kd.C (Kd.int .i64) w A1 l1.length l1) (hc1 : l1.length ≤ c1) (h : spec_SingText.f k l0 l1 = some r) :
  Calls Tryd.prog 47 #[.slice A0 l0.length c0, .slice A1 l1.length c1] w fun e w' => e = .returned (.string r) ∧ Below w.heap.size w w' := by
 have hu25 := Tryd.underlying25
 have HR0 := am hr0
 have HC0 := am hc0
 clear hr0 hc0
 have HR1 := am hr1
 have HC1 := am hc1
 clear hr1 hc1
 have HB := am (Below.refl w.heap.size w)
 have H : ((spec_SingOk.f k l0 l1).bind fun t144 => (if t144 = true then (spec_SingText.l0 k l0 l1 (⟨#[]⟩ : ByteArray) 0) else (some (⟨#[]⟩ : ByteArray)))) = some r := h
 clear h
 replace H := Option.bind_eq_some_iff.mp H
 obtain ⟨t144, A30, H⟩ := H
 replace H : (if t144 = true then (spec_SingText.l0 k l0 l1 (⟨#[]⟩ : ByteArray) 0) else (some (⟨#[]⟩ : ByteArray))) = some r := H
 have A3 := am A30
 clear A30
 by_cases c4 : t144 = true
 ·subst c4
  have H1 : (spec_SingText.l0 k l0 l1 (⟨#[]⟩ : ByteArray) 0) = some r := by rw [if_pos rfl] at H; exact H
  clear H
  have H := H1
  clear H1
  have H' := am H
  clear H
  go_enter Tryd.func47, Tryd.ntmps47
  go_wp2_with (first | ((with_reducible refine gate_callee (f := 38) rfl ?_); refine goesL_ (some 9) rfl rfl Tryd.func38 (by kernel_rfl) rfl #[.slice A0 l0.length c0, .slice A1 l1.length c1] rfl (by (try simp only [List.map_toArray, List.map_cons, List.map_nil]); first | done | rfl | (simp only [List.length_drop, List.length_take]; rfl)) ?_; (with_reducible refine (spec_SingOk.calls k _ _ l0 _ _ l1 true _ ?side1 ?side2 ?side3 ?side4 A3.out).mono ?_); (case side1 => exact cu HR0.out); (case side2 => exact HC0.out); (case side3 => exact cu HR1.out); (case side4 => exact HC1.out); rintro e w5 ⟨rfl, hb⟩; refine ⟨_, rfl, ?_⟩; have n0_ := am (below_step (bu HB.out) hb); clear HB; have HB := n0_; clear n0_; (try clear hb); (try clear hb2); (try clear hk); (try clear hi)))
  go_loopg [5, 6] k (fun kq v5 v6 w' => ∃ (x5_1 : ByteArray) (x6_1 : Int), v5 = .string x5_1 ∧ v6 = .int .i64 x6_1 ∧ Aside0 (spec_SingText.l0 kq l0 l1 x5_1 x6_1 = some r) ∧ Aside0 (kq ≤ k) ∧ Aside0 (Below w.heap.size w w'))
  case atStart => exact ⟨((⟨#[]⟩ : ByteArray)), (0), (by first | rfl | (simp; done) | (simp [*]; done)), (by first | rfl | (simp; done) | (simp [*]; done)), H', ⟨Nat.le_refl _⟩, ⟨bu HB.out⟩⟩
  case round =>
   clear H'
   try clear c1
   try clear p2
   try clear c3
   try clear c4
   obtain ⟨x5_1, x6_1, rfl, rfl, HA, HK1, HB⟩ := hrel
   cases gk with
   | zero => exact absurd HA.out (by simp [spec_SingText.l0])
   | succ k1 =>
    have H := HA.out
    clear HA
    simp only [spec_SingText.l0] at H
    by_cases c6 : x6_1 < (l0.length : Int)
    ·rw [if_pos c6] at H
     have c6b0 : decide (x6_1 < (l0.length : Int)) = true := decide_eq_true c6
     clear c6
     by_cases c7 : x6_1 > 0
     ·rw [if_pos c7] at H
      have c7b0 : decide (0 < x6_1) = true := decide_eq_true c7
      clear c7
      by_cases c8 : x5_1.size + 1 ≤ 9223372036854775807
      ·rw [if_pos c8] at H
       have c8b0 := eq_true c8
       have c8b1 : decide (x5_1.size + 1 ≤ 9223372036854775807) = true := decide_eq_true c8
       try have c8b2 : (9223372036854775807 < x5_1.size + 1) = False := eq_false (Nat.not_lt.2 c8)
       obtain ⟨y145, hy145⟩ : ∃ y_ : List ByteArray, y_ = (([(⟨#[117, 116]⟩ : ByteArray), (⟨#[114, 101]⟩ : ByteArray), (⟨#[109, 105]⟩ : ByteArray), (⟨#[102, 97]⟩ : ByteArray), (⟨#[115, 111, 108]⟩ : ByteArray), (⟨#[108, 97]⟩ : ByteArray)] : List ByteArray)) := ⟨_, rfl⟩
       replace H : (if 0 ≤ x6_1 then (if x6_1 < (l1.length : Int) then ((spec_HexSyllable.f k1 (rd l1 x6_1) ((rd_T25 l0 x6_1).f0) ((rd_T25 l0 x6_1).f1)).bind fun t150 => (if 0 ≤ t150 then (if t150 < (y145.length : Int) then (if (x5_1 ++ (⟨#[32]⟩ : ByteArray)).size + (rdOf ByteArray.empty y145 t150).size ≤ 9223372036854775807 then (spec_SingText.l0 k1 l0 l1 ((x5_1 ++ (⟨#[32]⟩ : ByteArray)) ++ (rdOf ByteArray.empty y145 t150)) (wrap64 (x6_1 + 1))) else (none)) else (none)) else (none))) else (none)) else (none)) = some r := by first | (rw [hy145]; with_reducible exact H) | (have H2_ := (Option.bind_some _ _).symm.trans H; rw [hy145]; with_reducible exact H2_) | (have H2_ := (Option.bind_some _ _).symm.trans H; with_reducible exact H2_) | with_reducible exact H | (rw [hy145]; exact H) | exact H
       have Ny145 := am hy145
       clear hy145
       by_cases c9 : 0 ≤ x6_1
       ·rw [if_pos c9] at H
        have c9b0 : decide (0 ≤ x6_1) = true := decide_eq_true c9
        clear c9
        by_cases c10 : x6_1 < (l1.length : Int)
        ·rw [if_pos c10] at H
         have c10b0 : decide (x6_1 < (l1.length : Int)) = true := decide_eq_true c10
         clear c10
         replace H := Option.bind_eq_some_iff.mp H
         obtain ⟨t150, A110, H⟩ := H
         replace H : (if 0 ≤ t150 then (if t150 < (y145.length : Int) then (if (x5_1 ++ (⟨#[32]⟩ : ByteArray)).size + (rdOf ByteArray.empty y145 t150).size ≤ 9223372036854775807 then (spec_SingText.l0 k1 l0 l1 ((x5_1 ++ (⟨#[32]⟩ : ByteArray)) ++ (rdOf ByteArray.empty y145 t150)) (wrap64 (x6_1 + 1))) else (none)) else (none)) else (none)) = some r := H
         have A11 := am A110
         clear A110
         by_cases c12 : 0 ≤ t150
         ·rw [if_pos c12] at H
          have c12b0 : decide (0 ≤ t150) = true := decide_eq_true c12
          clear c12
          by_cases c13 : t150 < (y145.length : Int)
          ·rw [if_pos c13] at H
           have c13b0 : decide (t150 < (y145.length : Int)) = true := decide_eq_true c13
           clear c13
           by_cases c14 : (x5_1 ++ (⟨#[32]⟩ : ByteArray)).size + (rdOf ByteArray.empty y145 t150).size ≤ 9223372036854775807
           ·rw [if_pos c14] at H
            have c14b0 := eq_true c14
            have c14b1 : decide ((x5_1 ++ (⟨#[32]⟩ : ByteArray)).size + (rdOf ByteArray.empty y145 t150).size ≤ 9223372036854775807) = true := decide_eq_true c14
            try have c14b2 : (9223372036854775807 < (x5_1 ++ (⟨#[32]⟩ : ByteArray)).size + (rdOf ByteArray.empty y145 t150).size) = False := eq_false (Nat.not_lt.2 c14)
            have H' := am H
            clear H
            try go_wp2
            have pi151 : (0 ≤ (t150 : Int)) = True := eq_true (od)
            have qi151 : (t150 < (y145.length : Int)) = True := eq_true (od)
            have n0_ := am (below_drew1 HB.out)
            clear HB
            have HB := n0_
            clear n0_
            have p148 : 0 ≤ (x6_1 : Int) := od
            have q148 : x6_1 < (l1.length : Int) := od
            obtain ⟨ad148, e148, hx148_0⟩ := Kd.at_int HR1.out x6_1 p148 q148
            have hw148_0 := hx148_0
            cases e148
            replace hx148_0 := (HB.out.cell (World.block_lt_of_cell? w _ hx148_0)).trans hx148_0
            replace p148 := eq_true p148
            replace q148 := eq_true q148
            have p149 : 0 ≤ (x6_1 : Int) := od
            have q149 : x6_1 < (l0.length : Int) := od
            obtain ⟨ad149, e149, hx149_0, hx149_1⟩ := at_T25 HR0.out x6_1 p149 q149
            have hw149_1 := hx149_1
            have hw149_0 := hx149_0
            cases e149
            replace hx149_0 := (HB.out.cell (World.block_lt_of_cell? w _ hx149_0)).trans hx149_0
            replace hx149_1 := (HB.out.cell (World.block_lt_of_cell? w _ hx149_1)).trans hx149_1
            replace p149 := eq_true p149
            replace q149 := eq_true q149
            refine start_ (n := 15) (S := fun w' => True) (ds := []) #[F,F,F,F,F,F,F,F,F,F,F,F,F,F,F] (by kernel_rfl) rfl rfl trivial (fun hHeld => ?_); refine with_tabW spec_SingText.tab9 spec_SingText.bits9 (fun HT_ HW_ => ?_)
            generalize wr.drew = w15 at HB hx148_0 hx149_0 hx149_1 hHeld ⊢
            refine pz 0 (some 21) #[T,F,F,F,F,F,F,F,F,F,F,F,F,F,F] (any_of HT_.out (by kernel_rfl)) (h := ?_)
            refine pz 2 (some 23) #[T,F,T,F,F,F,F,F,F,F,F,F,F,F,F] (any_of HT_.out (by kernel_rfl)) (h := ?_)
            refine pz 3 (some 24) #[T,F,T,T,F,F,F,F,F,F,F,F,F,F,F] (any_of HT_.out (by kernel_rfl)) (h := ?_)
            refine pz 6 (some 27) #[T,F,T,T,F,F,T,F,F,F,F,F,F,F,F] (any_of HT_.out (by kernel_rfl)) (h := ?_)
            refine pz 7 (some 28) #[T,F,T,T,F,F,T,T,F,F,F,F,F,F,F] (any_of HT_.out (by kernel_rfl)) (h := ?_)
            refine inv_at [1, 4, 5, 8, 9, 10, 11, 12, 13, 14] (fun a0_ b a w' => ∃ (v146 : Value) (adz_v146 : Addr) (m11_ : Value), a = putSel a0_ b [(1, 22, v146), (4, 25, .pointer (some (ad148.add (x6_1).toNat))), (5, 26, .int .i64 (rd l1 x6_1)), (8, 29, .pointer (some (ad149.add ((x6_1).toNat * 2)))), (9, 30, .agg #[.int .i64 ((rd_T25 l0 x6_1).f0), .bool ((rd_T25 l0 x6_1).f1)]), (10, 31, .int .i64 t150), (11, 32, m11_), (12, 33, .string (rdOf ByteArray.empty y145 t150)), (13, 34, .string ((x5_1 ++ (⟨#[32]⟩ : ByteArray)) ++ (rdOf ByteArray.empty y145 t150))), (14, 5, .string ((x5_1 ++ (⟨#[32]⟩ : ByteArray)) ++ (rdOf ByteArray.empty y145 t150)))] ∧ (Below w.heap.size w w') ∧ (b 1 = true → Kd.R Kd.string 9 w' w.heap.size (fun _ => True) v146 y145) ∧ (b 1 = true → ∃ c_, (v146 : Value) = .slice (some adz_v146) y145.length c_) ∧ (b 11 = true → (m11_ : Value) = .pointer (some (adz_v146.add (t150).toNat)))) HT_.out HW_.out (by kernel_rfl) (by kernel_rfl) ?_ ?_ ?_
            ·exact ⟨.bool false, ⟨0, 0, none⟩, .bool false, by simp only [putSel, Bool.false_eq_true, if_false], HB.out, fun h_ => absurd h_ (by decide), fun h_ => absurd h_ (by decide), fun h_ => absurd h_ (by decide)⟩
            ·skip
             clear HB
             refine steps_cons ?_ ?_
             ·rintro b a w' ⟨v146, adz_v146, m11_, ha, Q_HB, Q_HO147, Q_HA_HO147, Q_X11_⟩ hb_ hon hoff
              refine ⟨_, rfl, fun K hK => ?_⟩
              replace ha := am ha
              have HB := am Q_HB
              refine Kd.R_lit_step Kd.string _ 9 ?hg (N := 22) ?hd (xs := ([(⟨#[117, 116]⟩ : ByteArray), (⟨#[114, 101]⟩ : ByteArray), (⟨#[109, 105]⟩ : ByteArray), (⟨#[102, 97]⟩ : ByteArray), (⟨#[115, 111, 108]⟩ : ByteArray), (⟨#[108, 97]⟩ : ByteArray)] : List ByteArray)) (inner := [.string (⟨#[117, 116]⟩ : ByteArray), .string (⟨#[114, 101]⟩ : ByteArray), .string (⟨#[109, 105]⟩ : ByteArray), .string (⟨#[102, 97]⟩ : ByteArray), .string (⟨#[115, 111, 108]⟩ : ByteArray), .string (⟨#[108, 97]⟩ : ByteArray)]) (ok := fun _ => True) (okp := fun _ => True) ?hr ?hp (fun _ hk => hk) trivial (Below.refl _ _) (Nat.le_refl _) (by simp) ?_; (case hd => rfl); (case hg => rfl); (case hr => first | (go_simp; done) | (go_simp; rfl)); (case hp => exact (Reps.one (show Kd.M Kd.string _ _ _ (⟨#[117, 116]⟩ : ByteArray) [.string (⟨#[117, 116]⟩ : ByteArray)] from rfl) (Reps.one (show Kd.M Kd.string _ _ _ (⟨#[114, 101]⟩ : ByteArray) [.string (⟨#[114, 101]⟩ : ByteArray)] from rfl) (Reps.one (show Kd.M Kd.string _ _ _ (⟨#[109, 105]⟩ : ByteArray) [.string (⟨#[109, 105]⟩ : ByteArray)] from rfl) (Reps.one (show Kd.M Kd.string _ _ _ (⟨#[102, 97]⟩ : ByteArray) [.string (⟨#[102, 97]⟩ : ByteArray)] from rfl) (Reps.one (show Kd.M Kd.string _ _ _ (⟨#[115, 111, 108]⟩ : ByteArray) [.string (⟨#[115, 111, 108]⟩ : ByteArray)] from rfl) (Reps.one (show Kd.M Kd.string _ _ _ (⟨#[108, 97]⟩ : ByteArray) [.string (⟨#[108, 97]⟩ : ByteArray)] from rfl) (Reps.none _ _))))))))
              intro v146 w16 ho17 hb hg_ hnew_
              clear hg_ hnew_
              (first | rw [← Ny145.out] at ho17 | (simp only [Int.reduceToNat] at ho17; rw [← Ny145.out] at ho17))
              have n0_ := am (Kd.R_lower ho17 (below_size (bu HB.out)))
              have n1_ := am (below_step (bu HB.out) hb)
              clear HB
              have HO147 := n0_
              have HB := n1_
              clear n0_ n1_
              clear hb ho17
              obtain ⟨Ao18, co18, eo18⟩ := Kd.R_slice HO147.out
              subst eo18
              obtain ⟨ado18, fo18, _⟩ := Kd.at_string (Kd.R_reads' HO147.out).2.2 0 (by decide) (by rw [Ny145.out]; simp)
              cases fo18
              refine hK.out _ _ ⟨.slice (some ado18) y145.length co18, ado18, m11_, (by rw [ha.out]; exact putSel_upk 0 hb_ rfl rfl rfl), (bu HB.out), fun _ => (ru HO147.out), fun _ => ⟨_, rfl⟩, fun h0_ => absurd ((hoff 11 (by kernel_rfl)).symm.trans h0_) (by decide)⟩
             refine steps_cons ?_ ?_
             ·rintro b a w' ⟨v146, adz_v146, m11_, ha, Q_HB, Q_HO147, Q_HA_HO147, Q_X11_⟩ hb_ hon hoff
              refine ⟨_, rfl, fun K hK => ?_⟩
              have e23 : a.tmps[23]? = some (.slice (some ad148) l1.length c1) := by rw [ha]; exact (putSel_off rfl).trans rfl
              have e24 : a.tmps[24]? = some (.int .i64 x6_1) := by rw [ha]; exact (putSel_off rfl).trans rfl
              replace ha := am ha
              have HB := am Q_HB
              have hs0_ : w'.cell? (ad148.add (x6_1).toNat) = some (.int .i64 (rd l1 x6_1)) := ((HB.out.cell (World.block_lt_of_cell? w _ hw148_0)).trans hw148_0)
              refine value_ (w1 := w') (v := .pointer (some (ad148.add (x6_1).toNat))) (by rfl) rfl ?_ ?_
              ·go_simp
               (try simp only [i64_w])
               try rfl
              refine hK.out _ _ ⟨v146, adz_v146, m11_, (by rw [ha.out]; exact putSel_upk 1 hb_ rfl rfl rfl), Q_HB, Q_HO147, Q_HA_HO147, fun h0_ => absurd ((hoff 11 (by kernel_rfl)).symm.trans h0_) (by decide)⟩
             refine steps_cons ?_ ?_
             ·rintro b a w' ⟨v146, adz_v146, m11_, ha, Q_HB, Q_HO147, Q_HA_HO147, Q_X11_⟩ hb_ hon hoff
              refine ⟨_, rfl, fun K hK => ?_⟩
              have e25 : a.tmps[25]? = some (.pointer (some (ad148.add (x6_1).toNat))) := by rw [ha]; exact putSel_on (e := (4, 25, .pointer (some (ad148.add (x6_1).toNat)))) 1 rfl rfl (hon 4 (by kernel_rfl)) rfl
              replace ha := am ha
              have HB := am Q_HB
              have hs0_ : w'.cell? (ad148.add (x6_1).toNat) = some (.int .i64 (rd l1 x6_1)) := ((HB.out.cell (World.block_lt_of_cell? w _ hw148_0)).trans hw148_0)
              refine value_ (w1 := w') (v := .int .i64 (rd l1 x6_1)) (by rfl) rfl ?_ ?_
              ·go_simp
               (try simp only [i64_w])
               try rfl
              refine hK.out _ _ ⟨v146, adz_v146, m11_, (by rw [ha.out]; exact putSel_upk 2 hb_ rfl rfl rfl), Q_HB, Q_HO147, Q_HA_HO147, fun h0_ => absurd ((hoff 11 (by kernel_rfl)).symm.trans h0_) (by decide)⟩
             refine steps_cons ?_ ?_
             ·rintro b a w' ⟨v146, adz_v146, m11_, ha, Q_HB, Q_HO147, Q_HA_HO147, Q_X11_⟩ hb_ hon hoff
              refine ⟨_, rfl, fun K hK => ?_⟩
              have e27 : a.tmps[27]? = some (.slice (some ad149) l0.length c0) := by rw [ha]; exact (putSel_off rfl).trans rfl
              have e28 : a.tmps[28]? = some (.int .i64 x6_1) := by rw [ha]; exact (putSel_off rfl).trans rfl
              replace ha := am ha
              have HB := am Q_HB
              have hs1_ : w'.cell? (ad149.add ((x6_1).toNat * 2)) = some (.int .i64 ((rd_T25 l0 x6_1).f0)) := ((HB.out.cell (World.block_lt_of_cell? w _ hw149_0)).trans hw149_0)
              have hs2_ : w'.cell? ⟨(ad149.add ((x6_1).toNat * 2)).block, (ad149.add ((x6_1).toNat * 2)).off + 1, none⟩ = some (.bool ((rd_T25 l0 x6_1).f1)) := ((HB.out.cell (World.block_lt_of_cell? w _ hw149_1)).trans hw149_1)
              refine value_ (w1 := w') (v := .pointer (some (ad149.add ((x6_1).toNat * 2)))) (by rfl) rfl ?_ ?_
              ·go_simp
               (try simp only [i64_w])
               try rfl
              refine hK.out _ _ ⟨v146, adz_v146, m11_, (by rw [ha.out]; exact putSel_upk 3 hb_ rfl rfl rfl), Q_HB, Q_HO147, Q_HA_HO147, fun h0_ => absurd ((hoff 11 (by kernel_rfl)).symm.trans h0_) (by decide)⟩
             refine steps_cons ?_ ?_
             ·rintro b a w' ⟨v146, adz_v146, m11_, ha, Q_HB, Q_HO147, Q_HA_HO147, Q_X11_⟩ hb_ hon hoff
              refine ⟨_, rfl, fun K hK => ?_⟩
              have e29 : a.tmps[29]? = some (.pointer (some (ad149.add ((x6_1).toNat * 2)))) := by rw [ha]; exact putSel_on (e := (8, 29, .pointer (some (ad149.add ((x6_1).toNat * 2))))) 3 rfl rfl (hon 8 (by kernel_rfl)) rfl
              replace ha := am ha
              have HB := am Q_HB
              have hs1_ : w'.cell? (ad149.add ((x6_1).toNat * 2)) = some (.int .i64 ((rd_T25 l0 x6_1).f0)) := ((HB.out.cell (World.block_lt_of_cell? w _ hw149_0)).trans hw149_0)
              have hs2_ : w'.cell? ⟨(ad149.add ((x6_1).toNat * 2)).block, (ad149.add ((x6_1).toNat * 2)).off + 1, none⟩ = some (.bool ((rd_T25 l0 x6_1).f1)) := ((HB.out.cell (World.block_lt_of_cell? w _ hw149_1)).trans hw149_1)
              refine value_ (w1 := w') (v := .agg #[.int .i64 ((rd_T25 l0 x6_1).f0), .bool ((rd_T25 l0 x6_1).f1)]) (by rfl) rfl ?_ ?_
              ·go_simp
               (try simp only [i64_w])
               try rfl
              refine hK.out _ _ ⟨v146, adz_v146, m11_, (by rw [ha.out]; exact putSel_upk 4 hb_ rfl rfl rfl), Q_HB, Q_HO147, Q_HA_HO147, fun h0_ => absurd ((hoff 11 (by kernel_rfl)).symm.trans h0_) (by decide)⟩
             refine steps_cons ?_ ?_
             ·rintro b a w' ⟨v146, adz_v146, m11_, ha, Q_HB, Q_HO147, Q_HA_HO147, Q_X11_⟩ hb_ hon hoff
              refine ⟨_, rfl, fun K hK => ?_⟩
              have e26 : a.tmps[26]? = some (.int .i64 (rd l1 x6_1)) := by rw [ha]; exact putSel_on (e := (5, 26, .int .i64 (rd l1 x6_1))) 2 rfl rfl (hon 5 (by kernel_rfl)) rfl
              have e30 : a.tmps[30]? = some (.agg #[.int .i64 ((rd_T25 l0 x6_1).f0), .bool ((rd_T25 l0 x6_1).f1)]) := by rw [ha]; exact putSel_on (e := (9, 30, .agg #[.int .i64 ((rd_T25 l0 x6_1).f0), .bool ((rd_T25 l0 x6_1).f1)])) 4 rfl rfl (hon 9 (by kernel_rfl)) rfl
              replace ha := am ha
              have HB := am Q_HB
              refine goes_ Tryd.func22 (by kernel_rfl) rfl #[.int .i64 (rd l1 x6_1), .agg #[.int .i64 ((rd_T25 l0 x6_1).f0), .bool ((rd_T25 l0 x6_1).f1)]] (by rfl) rfl rfl (by first | (simp only [List.map_toArray, List.map_cons, List.map_nil, Act.eval, Array.getD_eq_getD_getElem?, Option.getD_some, e26, e30]; done) | (simp only [List.map_toArray, List.map_cons, List.map_nil, Act.eval, Array.getD_eq_getD_getElem?, Option.getD_some, e26, e30]; rfl)) ?_
              with_reducible refine (spec_HexSyllable.calls k1 (rd l1 x6_1) ((rd_T25 l0 x6_1).f0) ((rd_T25 l0 x6_1).f1) t150 _ A11.out).mono ?_
              rintro e w16 ⟨rfl, hb⟩
              refine ⟨_, rfl, ?_⟩
              have n0_ := am (below_step (bu HB.out) hb)
              have z_HO147 := fun (h0_ : b 1 = true) => (show Kd.R Kd.string 9 w16 w.heap.size (fun _ => True) v146 y145 from by first | exact (Kd.R_below (by (with_reducible repeat (first | apply Kd.R_alloc | apply Kd.R_drewN | apply Kd.R_drew)); exact (Q_HO147 h0_)) hb) | exact Kd.R_mono (Kd.R_below (by (with_reducible repeat (first | apply Kd.R_alloc | apply Kd.R_drewN | apply Kd.R_drew)); exact (Q_HO147 h0_)) hb) (fun _ h_ => by first | trivial | exact h_ | exact h_.1))
              clear HB
              have HB := n0_
              clear n0_
              (try clear hb)
              (try clear hb2)
              (try clear hk)
              (try clear hi)
              refine hK.out _ _ ⟨v146, adz_v146, m11_, (by rw [ha.out]; exact putSel_upk 5 hb_ rfl rfl rfl), (bu HB.out), z_HO147, Q_HA_HO147, fun h0_ => absurd ((hoff 11 (by kernel_rfl)).symm.trans h0_) (by decide)⟩
             refine steps_cons ?_ ?_
             ·rintro b a w' ⟨v146, adz_v146, m11_, ha, Q_HB, Q_HO147, Q_HA_HO147, Q_X11_⟩ hb_ hon hoff
              refine ⟨_, rfl, fun K hK => ?_⟩
              have e22 : a.tmps[22]? = some (v146) := by rw [ha]; exact putSel_on (e := (1, 22, v146)) 0 rfl rfl (hon 1 (by kernel_rfl)) rfl
              have e31 : a.tmps[31]? = some (.int .i64 t150) := by rw [ha]; exact putSel_on (e := (10, 31, .int .i64 t150)) 5 rfl rfl (hon 10 (by kernel_rfl)) rfl
              replace ha := am ha
              have HB := am Q_HB
              have HO147 := am (Q_HO147 (hon 1 (by kernel_rfl)))
              have HA_HO147 := am (Q_HA_HO147 (hon 1 (by kernel_rfl)))
              obtain ⟨c_, hv_⟩ := HA_HO147.out
              rw [hv_] at e22
              refine value_ (w1 := w') (v := .pointer (some (adz_v146.add (t150).toNat))) (by rfl) rfl ?_ ?_
              ·go_simp
               (try simp only [i64_w])
               try rfl
              refine hK.out _ _ ⟨v146, adz_v146, (.pointer (some (adz_v146.add (t150).toNat))), (by rw [ha.out]; exact putSel_upk 6 hb_ rfl rfl rfl), Q_HB, Q_HO147, Q_HA_HO147, fun _ => rfl⟩
             refine steps_cons ?_ ?_
             ·rintro b a w' ⟨v146, adz_v146, m11_, ha, Q_HB, Q_HO147, Q_HA_HO147, Q_X11_⟩ hb_ hon hoff
              refine ⟨_, rfl, fun K hK => ?_⟩
              have e32 : a.tmps[32]? = some (m11_) := by rw [ha]; exact putSel_on (e := (11, 32, m11_)) 6 rfl rfl (hon 11 (by kernel_rfl)) rfl
              rw [Q_X11_ (hon 11 (by kernel_rfl))] at e32
              replace ha := am ha
              have HB := am Q_HB
              have HO147 := am (Q_HO147 (hon 1 (by kernel_rfl)))
              have HA_HO147 := am (Q_HA_HO147 (hon 1 (by kernel_rfl)))
              obtain ⟨c_, hv_⟩ := HA_HO147.out
              have hF_ := HO147.out
              rw [hv_] at hF_
              obtain ⟨ad_, ea_, hx_⟩ := Kd.at_string (Kd.R_reads' hF_).2.2 t150 (of_eq_true pi151) (of_eq_true qi151)
              cases ea_
              refine value_ (w1 := w') (v := .string (rdOf ByteArray.empty y145 t150)) (by rfl) rfl ?_ ?_
              ·go_simp
               (try simp only [i64_w])
               try rfl
              refine hK.out _ _ ⟨v146, adz_v146, m11_, (by rw [ha.out]; exact putSel_upk 7 hb_ rfl rfl rfl), Q_HB, Q_HO147, Q_HA_HO147, Q_X11_⟩
             refine steps_cons ?_ ?_
             ·rintro b a w' ⟨v146, adz_v146, m11_, ha, Q_HB, Q_HO147, Q_HA_HO147, Q_X11_⟩ hb_ hon hoff
              refine ⟨_, rfl, fun K hK => ?_⟩
              have e21 : a.tmps[21]? = some (.string (x5_1 ++ (⟨#[32]⟩ : ByteArray))) := by rw [ha]; exact (putSel_off rfl).trans rfl
              have e33 : a.tmps[33]? = some (.string (rdOf ByteArray.empty y145 t150)) := by rw [ha]; exact putSel_on (e := (12, 33, .string (rdOf ByteArray.empty y145 t150))) 7 rfl rfl (hon 12 (by kernel_rfl)) rfl
              replace ha := am ha
              have HB := am Q_HB
              have HO147 := am (Q_HO147 (hon 1 (by kernel_rfl)))
              have HA_HO147 := am (Q_HA_HO147 (hon 1 (by kernel_rfl)))
              refine value_ (w1 := w') (v := .string ((x5_1 ++ (⟨#[32]⟩ : ByteArray)) ++ (rdOf ByteArray.empty y145 t150))) (by rfl) rfl ?_ ?_
              ·go_simp
               (try simp only [i64_w])
               try rfl
               (try exact Nat.le_trans (Nat.le_of_eq (by rw [ByteArray.size_append]; rfl)) c14)
              refine hK.out _ _ ⟨v146, adz_v146, m11_, (by rw [ha.out]; exact putSel_upk 8 hb_ rfl rfl rfl), Q_HB, Q_HO147, Q_HA_HO147, Q_X11_⟩
             refine steps_cons ?_ ?_
             ·rintro b a w' ⟨v146, adz_v146, m11_, ha, Q_HB, Q_HO147, Q_HA_HO147, Q_X11_⟩ hb_ hon hoff
              refine ⟨_, rfl, fun K hK => ?_⟩
              have e34 : a.tmps[34]? = some (.string ((x5_1 ++ (⟨#[32]⟩ : ByteArray)) ++ (rdOf ByteArray.empty y145 t150))) := by rw [ha]; exact putSel_on (e := (13, 34, .string ((x5_1 ++ (⟨#[32]⟩ : ByteArray)) ++ (rdOf ByteArray.empty y145 t150)))) 8 rfl rfl (hon 13 (by kernel_rfl)) rfl
              replace ha := am ha
              have HB := am Q_HB
              have HO147 := am (Q_HO147 (hon 1 (by kernel_rfl)))
              have HA_HO147 := am (Q_HA_HO147 (hon 1 (by kernel_rfl)))
              refine value_ (w1 := w') (v := .string ((x5_1 ++ (⟨#[32]⟩ : ByteArray)) ++ (rdOf ByteArray.empty y145 t150))) (by rfl) rfl ?_ ?_
              ·go_simp
               (try simp only [i64_w])
               try rfl
               (try exact Nat.le_trans (Nat.le_of_eq (by rw [ByteArray.size_append]; rfl)) c14)
              refine hK.out _ _ ⟨v146, adz_v146, m11_, (by rw [ha.out]; exact putSel_upk 9 hb_ rfl rfl rfl), Q_HB, Q_HO147, Q_HA_HO147, Q_X11_⟩
             exact steps_nil
            rintro b a w20 hall ⟨v146, adz_v146, m11_, ha, Q_HB, Q_HO147, Q_HA_HO147, Q_X11_⟩
            clear HB
            have hb1_ := hall 1 (by kernel_rfl)
            have hb4_ := hall 4 (by kernel_rfl)
            have hb5_ := hall 5 (by kernel_rfl)
            have hb8_ := hall 8 (by kernel_rfl)
            have hb9_ := hall 9 (by kernel_rfl)
            have hb10_ := hall 10 (by kernel_rfl)
            have hb11_ := hall 11 (by kernel_rfl)
            have hb12_ := hall 12 (by kernel_rfl)
            have hb13_ := hall 13 (by kernel_rfl)
            have hb14_ := hall 14 (by kernel_rfl)
            subst ha
            obtain rfl := Q_X11_ hb11_
            simp only [putSel, hb1_, hb4_, hb5_, hb8_, hb9_, hb10_, hb11_, hb12_, hb13_, hb14_, if_true, Act.put, sA, sZ, sS]
            have HB := am Q_HB
            clear Q_HB
            have HO147 := am (Q_HO147 hb1_)
            clear Q_HO147
            have HA_HO147 := am (Q_HA_HO147 hb1_)
            clear Q_HA_HO147
            clear hall hb1_ hb4_ hb5_ hb8_ hb9_ hb10_ hb11_ hb12_ hb13_ hb14_
            obtain ⟨co21, eo21⟩ := HA_HO147.out
            clear HA_HO147
            subst eo21
            try go_wp2
            go_roundg k1
            case measure => have := HK1.out; omega
            case rel => exact ⟨((x5_1 ++ (⟨#[32]⟩ : ByteArray)) ++ (rdOf ByteArray.empty y145 t150)), (wrap64 (x6_1 + 1)), (by first | rfl | (simp; done) | (simp [*]; done)), (by first | rfl | (simp; done) | (simp [*]; done)), H', ⟨by have := HK1.out; omega⟩, ⟨bu HB.out⟩⟩
           ·rw [if_neg c14] at H
            exact absurd H (by simp)
          ·rw [if_neg c13] at H
           exact absurd H (by simp)
         ·rw [if_neg c12] at H
          exact absurd H (by simp)
        ·rw [if_neg c10] at H
         exact absurd H (by simp)
       ·rw [if_neg c9] at H
        exact absurd H (by simp)
      ·rw [if_neg c8] at H
       exact absurd H (by simp)
     ·rw [if_neg c7] at H
      have c7b0 : decide (0 < x6_1) = false := decide_eq_false c7
      clear c7
      obtain ⟨y152, hy152⟩ : ∃ y_ : List ByteArray, y_ = (([(⟨#[117, 116]⟩ : ByteArray), (⟨#[114, 101]⟩ : ByteArray), (⟨#[109, 105]⟩ : ByteArray), (⟨#[102, 97]⟩ : ByteArray), (⟨#[115, 111, 108]⟩ : ByteArray), (⟨#[108, 97]⟩ : ByteArray)] : List ByteArray)) := ⟨_, rfl⟩
      replace H : (if 0 ≤ x6_1 then (if x6_1 < (l1.length : Int) then ((spec_HexSyllable.f k1 (rd l1 x6_1) ((rd_T25 l0 x6_1).f0) ((rd_T25 l0 x6_1).f1)).bind fun t157 => (if 0 ≤ t157 then (if t157 < (y152.length : Int) then (if x5_1.size + (rdOf ByteArray.empty y152 t157).size ≤ 9223372036854775807 then (spec_SingText.l0 k1 l0 l1 (x5_1 ++ (rdOf ByteArray.empty y152 t157)) (wrap64 (x6_1 + 1))) else (none)) else (none)) else (none))) else (none)) else (none)) = some r := by first | (rw [hy152]; with_reducible exact H) | (have H2_ := (Option.bind_some _ _).symm.trans H; rw [hy152]; with_reducible exact H2_) | (have H2_ := (Option.bind_some _ _).symm.trans H; with_reducible exact H2_) | with_reducible exact H | (rw [hy152]; exact H) | exact H
      have Ny152 := am hy152
      clear hy152
      by_cases c22 : 0 ≤ x6_1
      ·rw [if_pos c22] at H
       have c22b0 : decide (0 ≤ x6_1) = true := decide_eq_true c22
       clear c22
       by_cases c23 : x6_1 < (l1.length : Int)
       ·rw [if_pos c23] at H
        have c23b0 : decide (x6_1 < (l1.length : Int)) = true := decide_eq_true c23
        clear c23
        replace H := Option.bind_eq_some_iff.mp H
        obtain ⟨t157, A240, H⟩ := H
        replace H : (if 0 ≤ t157 then (if t157 < (y152.length : Int) then (if x5_1.size + (rdOf ByteArray.empty y152 t157).size ≤ 9223372036854775807 then (spec_SingText.l0 k1 l0 l1 (x5_1 ++ (rdOf ByteArray.empty y152 t157)) (wrap64 (x6_1 + 1))) else (none)) else (none)) else (none)) = some r := H
        have A24 := am A240
        clear A240
        by_cases c25 : 0 ≤ t157
        ·rw [if_pos c25] at H
         have c25b0 : decide (0 ≤ t157) = true := decide_eq_true c25
         clear c25
         by_cases c26 : t157 < (y152.length : Int)
         ·rw [if_pos c26] at H
          have c26b0 : decide (t157 < (y152.length : Int)) = true := decide_eq_true c26
          clear c26
          by_cases c27 : x5_1.size + (rdOf ByteArray.empty y152 t157).size ≤ 9223372036854775807
          ·rw [if_pos c27] at H
           have c27b0 := eq_true c27
           have c27b1 : decide (x5_1.size + (rdOf ByteArray.empty y152 t157).size ≤ 9223372036854775807) = true := decide_eq_true c27
           try have c27b2 : (9223372036854775807 < x5_1.size + (rdOf ByteArray.empty y152 t157).size) = False := eq_false (Nat.not_lt.2 c27)
           have H' := am H
           clear H
           try go_wp2
           have pi158 : (0 ≤ (t157 : Int)) = True := eq_true (od)
           have qi158 : (t157 < (y152.length : Int)) = True := eq_true (od)
           have n0_ := am (below_drew1 HB.out)
           clear HB
           have HB := n0_
           clear n0_
           have p155 : 0 ≤ (x6_1 : Int) := od
           have q155 : x6_1 < (l1.length : Int) := od
           obtain ⟨ad155, e155, hx155_0⟩ := Kd.at_int HR1.out x6_1 p155 q155
           have hw155_0 := hx155_0
           cases e155
           replace hx155_0 := (HB.out.cell (World.block_lt_of_cell? w _ hx155_0)).trans hx155_0
           replace p155 := eq_true p155
           replace q155 := eq_true q155
           have p156 : 0 ≤ (x6_1 : Int) := od
           have q156 : x6_1 < (l0.length : Int) := od
           obtain ⟨ad156, e156, hx156_0, hx156_1⟩ := at_T25 HR0.out x6_1 p156 q156
           have hw156_1 := hx156_1
           have hw156_0 := hx156_0
           cases e156
           replace hx156_0 := (HB.out.cell (World.block_lt_of_cell? w _ hx156_0)).trans hx156_0
           replace hx156_1 := (HB.out.cell (World.block_lt_of_cell? w _ hx156_1)).trans hx156_1
           replace p156 := eq_true p156
           replace q156 := eq_true q156
           refine start_ (n := 15) (S := fun w' => True) (ds := []) #[F,F,F,F,F,F,F,F,F,F,F,F,F,F,F] (by kernel_rfl) rfl rfl trivial (fun hHeld => ?_); refine with_tabW spec_SingText.tab9 spec_SingText.bits9 (fun HT_ HW_ => ?_)
           generalize wr.drew = w28 at HB hx155_0 hx156_0 hx156_1 hHeld ⊢
           refine pz 0 (some 21) #[T,F,F,F,F,F,F,F,F,F,F,F,F,F,F] (any_of HT_.out (by kernel_rfl)) (h := ?_)
           refine pz 2 (some 23) #[T,F,T,F,F,F,F,F,F,F,F,F,F,F,F] (any_of HT_.out (by kernel_rfl)) (h := ?_)
           refine pz 3 (some 24) #[T,F,T,T,F,F,F,F,F,F,F,F,F,F,F] (any_of HT_.out (by kernel_rfl)) (h := ?_)
           refine pz 6 (some 27) #[T,F,T,T,F,F,T,F,F,F,F,F,F,F,F] (any_of HT_.out (by kernel_rfl)) (h := ?_)
           refine pz 7 (some 28) #[T,F,T,T,F,F,T,T,F,F,F,F,F,F,F] (any_of HT_.out (by kernel_rfl)) (h := ?_)
           refine inv_at [1, 4, 5, 8, 9, 10, 11, 12, 13, 14] (fun a0_ b a w' => ∃ (v153 : Value) (adz_v153 : Addr) (m11_ : Value), a = putSel a0_ b [(1, 22, v153), (4, 25, .pointer (some (ad155.add (x6_1).toNat))), (5, 26, .int .i64 (rd l1 x6_1)), (8, 29, .pointer (some (ad156.add ((x6_1).toNat * 2)))), (9, 30, .agg #[.int .i64 ((rd_T25 l0 x6_1).f0), .bool ((rd_T25 l0 x6_1).f1)]), (10, 31, .int .i64 t157), (11, 32, m11_), (12, 33, .string (rdOf ByteArray.empty y152 t157)), (13, 34, .string (x5_1 ++ (rdOf ByteArray.empty y152 t157))), (14, 5, .string (x5_1 ++ (rdOf ByteArray.empty y152 t157)))] ∧ (Below w.heap.size w w') ∧ (b 1 = true → Kd.R Kd.string 9 w' w.heap.size (fun _ => True) v153 y152) ∧ (b 1 = true → ∃ c_, (v153 : Value) = .slice (some adz_v153) y152.length c_) ∧ (b 11 = true → (m11_ : Value) = .pointer (some (adz_v153.add (t157).toNat)))) HT_.out HW_.out (by kernel_rfl) (by kernel_rfl) ?_ ?_ ?_
           ·exact ⟨.bool false, ⟨0, 0, none⟩, .bool false, by simp only [putSel, Bool.false_eq_true, if_false], HB.out, fun h_ => absurd h_ (by decide), fun h_ => absurd h_ (by decide), fun h_ => absurd h_ (by decide)⟩
           ·skip
            clear HB
            refine steps_cons ?_ ?_
            ·rintro b a w' ⟨v153, adz_v153, m11_, ha, Q_HB, Q_HO154, Q_HA_HO154, Q_X11_⟩ hb_ hon hoff
             refine ⟨_, rfl, fun K hK => ?_⟩
             replace ha := am ha
             have HB := am Q_HB
             refine Kd.R_lit_step Kd.string _ 9 ?hg (N := 22) ?hd (xs := ([(⟨#[117, 116]⟩ : ByteArray), (⟨#[114, 101]⟩ : ByteArray), (⟨#[109, 105]⟩ : ByteArray), (⟨#[102, 97]⟩ : ByteArray), (⟨#[115, 111, 108]⟩ : ByteArray), (⟨#[108, 97]⟩ : ByteArray)] : List ByteArray)) (inner := [.string (⟨#[117, 116]⟩ : ByteArray), .string (⟨#[114, 101]⟩ : ByteArray), .string (⟨#[109, 105]⟩ : ByteArray), .string (⟨#[102, 97]⟩ : ByteArray), .string (⟨#[115, 111, 108]⟩ : ByteArray), .string (⟨#[108, 97]⟩ : ByteArray)]) (ok := fun _ => True) (okp := fun _ => True) ?hr ?hp (fun _ hk => hk) trivial (Below.refl _ _) (Nat.le_refl _) (by simp) ?_; (case hd => rfl); (case hg => rfl); (case hr => first | (go_simp; done) | (go_simp; rfl)); (case hp => exact (Reps.one (show Kd.M Kd.string _ _ _ (⟨#[117, 116]⟩ : ByteArray) [.string (⟨#[117, 116]⟩ : ByteArray)] from rfl) (Reps.one (show Kd.M Kd.string _ _ _ (⟨#[114, 101]⟩ : ByteArray) [.string (⟨#[114, 101]⟩ : ByteArray)] from rfl) (Reps.one (show Kd.M Kd.string _ _ _ (⟨#[109, 105]⟩ : ByteArray) [.string (⟨#[109, 105]⟩ : ByteArray)] from rfl) (Reps.one (show Kd.M Kd.string _ _ _ (⟨#[102, 97]⟩ : ByteArray) [.string (⟨#[102, 97]⟩ : ByteArray)] from rfl) (Reps.one (show Kd.M Kd.string _ _ _ (⟨#[115, 111, 108]⟩ : ByteArray) [.string (⟨#[115, 111, 108]⟩ : ByteArray)] from rfl) (Reps.one (show Kd.M Kd.string _ _ _ (⟨#[108, 97]⟩ : ByteArray) [.string (⟨#[108, 97]⟩ : ByteArray)] from rfl) (Reps.none _ _))))))))
             intro v153 w29 ho30 hb hg_ hnew_
             clear hg_ hnew_
             (first | rw [← Ny152.out] at ho30 | (simp only [Int.reduceToNat] at ho30; rw [← Ny152.out] at ho30))
             have n0_ := am (Kd.R_lower ho30 (below_size (bu HB.out)))
             have n1_ := am (below_step (bu HB.out) hb)
             clear HB
             have HO154 := n0_
             have HB := n1_
             clear n0_ n1_
             clear hb ho30
             obtain ⟨Ao31, co31, eo31⟩ := Kd.R_slice HO154.out
             subst eo31
             obtain ⟨ado31, fo31, _⟩ := Kd.at_string (Kd.R_reads' HO154.out).2.2 0 (by decide) (by rw [Ny152.out]; simp)
             cases fo31
             refine hK.out _ _ ⟨.slice (some ado31) y152.length co31, ado31, m11_, (by rw [ha.out]; exact putSel_upk 0 hb_ rfl rfl rfl), (bu HB.out), fun _ => (ru HO154.out), fun _ => ⟨_, rfl⟩, fun h0_ => absurd ((hoff 11 (by kernel_rfl)).symm.trans h0_) (by decide)⟩
            refine steps_cons ?_ ?_
            ·rintro b a w' ⟨v153, adz_v153, m11_, ha, Q_HB, Q_HO154, Q_HA_HO154, Q_X11_⟩ hb_ hon hoff
             refine ⟨_, rfl, fun K hK => ?_⟩
             have e23 : a.tmps[23]? = some (.slice (some ad155) l1.length c1) := by rw [ha]; exact (putSel_off rfl).trans rfl
             have e24 : a.tmps[24]? = some (.int .i64 x6_1) := by rw [ha]; exact (putSel_off rfl).trans rfl
             replace ha := am ha
             have HB := am Q_HB
             have hs0_ : w'.cell? (ad155.add (x6_1).toNat) = some (.int .i64 (rd l1 x6_1)) := ((HB.out.cell (World.block_lt_of_cell? w _ hw155_0)).trans hw155_0)
             refine value_ (w1 := w') (v := .pointer (some (ad155.add (x6_1).toNat))) (by rfl) rfl ?_ ?_
             ·go_simp
              (try simp only [i64_w])
              try rfl
             refine hK.out _ _ ⟨v153, adz_v153, m11_, (by rw [ha.out]; exact putSel_upk 1 hb_ rfl rfl rfl), Q_HB, Q_HO154, Q_HA_HO154, fun h0_ => absurd ((hoff 11 (by kernel_rfl)).symm.trans h0_) (by decide)⟩
            refine steps_cons ?_ ?_
            ·rintro b a w' ⟨v153, adz_v153, m11_, ha, Q_HB, Q_HO154, Q_HA_HO154, Q_X11_⟩ hb_ hon hoff
             refine ⟨_, rfl, fun K hK => ?_⟩
             have e25 : a.tmps[25]? = some (.pointer (some (ad155.add (x6_1).toNat))) := by rw [ha]; exact putSel_on (e := (4, 25, .pointer (some (ad155.add (x6_1).toNat)))) 1 rfl rfl (hon 4 (by kernel_rfl)) rfl
             replace ha := am ha
             have HB := am Q_HB
             have hs0_ : w'.cell? (ad155.add (x6_1).toNat) = some (.int .i64 (rd l1 x6_1)) := ((HB.out.cell (World.block_lt_of_cell? w _ hw155_0)).trans hw155_0)
             refine value_ (w1 := w') (v := .int .i64 (rd l1 x6_1)) (by rfl) rfl ?_ ?_
             ·go_simp
              (try simp only [i64_w])
              try rfl
             refine hK.out _ _ ⟨v153, adz_v153, m11_, (by rw [ha.out]; exact putSel_upk 2 hb_ rfl rfl rfl), Q_HB, Q_HO154, Q_HA_HO154, fun h0_ => absurd ((hoff 11 (by kernel_rfl)).symm.trans h0_) (by decide)⟩
            refine steps_cons ?_ ?_
            ·rintro b a w' ⟨v153, adz_v153, m11_, ha, Q_HB, Q_HO154, Q_HA_HO154, Q_X11_⟩ hb_ hon hoff
             refine ⟨_, rfl, fun K hK => ?_⟩
             have e27 : a.tmps[27]? = some (.slice (some ad156) l0.length c0) := by rw [ha]; exact (putSel_off rfl).trans rfl
             have e28 : a.tmps[28]? = some (.int .i64 x6_1) := by rw [ha]; exact (putSel_off rfl).trans rfl
             replace ha := am ha
             have HB := am Q_HB
             have hs1_ : w'.cell? (ad156.add ((x6_1).toNat * 2)) = some (.int .i64 ((rd_T25 l0 x6_1).f0)) := ((HB.out.cell (World.block_lt_of_cell? w _ hw156_0)).trans hw156_0)
             have hs2_ : w'.cell? ⟨(ad156.add ((x6_1).toNat * 2)).block, (ad156.add ((x6_1).toNat * 2)).off + 1, none⟩ = some (.bool ((rd_T25 l0 x6_1).f1)) := ((HB.out.cell (World.block_lt_of_cell? w _ hw156_1)).trans hw156_1)
             refine value_ (w1 := w') (v := .pointer (some (ad156.add ((x6_1).toNat * 2)))) (by rfl) rfl ?_ ?_
             ·go_simp
              (try simp only [i64_w])
              try rfl
             refine hK.out _ _ ⟨v153, adz_v153, m11_, (by rw [ha.out]; exact putSel_upk 3 hb_ rfl rfl rfl), Q_HB, Q_HO154, Q_HA_HO154, fun h0_ => absurd ((hoff 11 (by kernel_rfl)).symm.trans h0_) (by decide)⟩
            refine steps_cons ?_ ?_
            ·rintro b a w' ⟨v153, adz_v153, m11_, ha, Q_HB, Q_HO154, Q_HA_HO154, Q_X11_⟩ hb_ hon hoff
             refine ⟨_, rfl, fun K hK => ?_⟩
             have e29 : a.tmps[29]? = some (.pointer (some (ad156.add ((x6_1).toNat * 2)))) := by rw [ha]; exact putSel_on (e := (8, 29, .pointer (some (ad156.add ((x6_1).toNat * 2))))) 3 rfl rfl (hon 8 (by kernel_rfl)) rfl
             replace ha := am ha
             have HB := am Q_HB
             have hs1_ : w'.cell? (ad156.add ((x6_1).toNat * 2)) = some (.int .i64 ((rd_T25 l0 x6_1).f0)) := ((HB.out.cell (World.block_lt_of_cell? w _ hw156_0)).trans hw156_0)
             have hs2_ : w'.cell? ⟨(ad156.add ((x6_1).toNat * 2)).block, (ad156.add ((x6_1).toNat * 2)).off + 1, none⟩ = some (.bool ((rd_T25 l0 x6_1).f1)) := ((HB.out.cell (World.block_lt_of_cell? w _ hw156_1)).trans hw156_1)
             refine value_ (w1 := w') (v := .agg #[.int .i64 ((rd_T25 l0 x6_1).f0), .bool ((rd_T25 l0 x6_1).f1)]) (by rfl) rfl ?_ ?_
             ·go_simp
              (try simp only [i64_w])
              try rfl
             refine hK.out _ _ ⟨v153, adz_v153, m11_, (by rw [ha.out]; exact putSel_upk 4 hb_ rfl rfl rfl), Q_HB, Q_HO154, Q_HA_HO154, fun h0_ => absurd ((hoff 11 (by kernel_rfl)).symm.trans h0_) (by decide)⟩
            refine steps_cons ?_ ?_
            ·rintro b a w' ⟨v153, adz_v153, m11_, ha, Q_HB, Q_HO154, Q_HA_HO154, Q_X11_⟩ hb_ hon hoff
             refine ⟨_, rfl, fun K hK => ?_⟩
             have e26 : a.tmps[26]? = some (.int .i64 (rd l1 x6_1)) := by rw [ha]; exact putSel_on (e := (5, 26, .int .i64 (rd l1 x6_1))) 2 rfl rfl (hon 5 (by kernel_rfl)) rfl
             have e30 : a.tmps[30]? = some (.agg #[.int .i64 ((rd_T25 l0 x6_1).f0), .bool ((rd_T25 l0 x6_1).f1)]) := by rw [ha]; exact putSel_on (e := (9, 30, .agg #[.int .i64 ((rd_T25 l0 x6_1).f0), .bool ((rd_T25 l0 x6_1).f1)])) 4 rfl rfl (hon 9 (by kernel_rfl)) rfl
             replace ha := am ha
             have HB := am Q_HB
             refine goes_ Tryd.func22 (by kernel_rfl) rfl #[.int .i64 (rd l1 x6_1), .agg #[.int .i64 ((rd_T25 l0 x6_1).f0), .bool ((rd_T25 l0 x6_1).f1)]] (by rfl) rfl rfl (by first | (simp only [List.map_toArray, List.map_cons, List.map_nil, Act.eval, Array.getD_eq_getD_getElem?, Option.getD_some, e26, e30]; done) | (simp only [List.map_toArray, List.map_cons, List.map_nil, Act.eval, Array.getD_eq_getD_getElem?, Option.getD_some, e26, e30]; rfl)) ?_
             with_reducible refine (spec_HexSyllable.calls k1 (rd l1 x6_1) ((rd_T25 l0 x6_1).f0) ((rd_T25 l0 x6_1).f1) t157 _ A24.out).mono ?_
             rintro e w29 ⟨rfl, hb⟩
             refine ⟨_, rfl, ?_⟩
             have n0_ := am (below_step (bu HB.out) hb)
             have z_HO154 := fun (h0_ : b 1 = true) => (show Kd.R Kd.string 9 w29 w.heap.size (fun _ => True) v153 y152 from by first | exact (Kd.R_below (by (with_reducible repeat (first | apply Kd.R_alloc | apply Kd.R_drewN | apply Kd.R_drew)); exact (Q_HO154 h0_)) hb) | exact Kd.R_mono (Kd.R_below (by (with_reducible repeat (first | apply Kd.R_alloc | apply Kd.R_drewN | apply Kd.R_drew)); exact (Q_HO154 h0_)) hb) (fun _ h_ => by first | trivial | exact h_ | exact h_.1))
             clear HB
             have HB := n0_
             clear n0_
             (try clear hb)
             (try clear hb2)
             (try clear hk)
             (try clear hi)
             refine hK.out _ _ ⟨v153, adz_v153, m11_, (by rw [ha.out]; exact putSel_upk 5 hb_ rfl rfl rfl), (bu HB.out), z_HO154, Q_HA_HO154, fun h0_ => absurd ((hoff 11 (by kernel_rfl)).symm.trans h0_) (by decide)⟩
            refine steps_cons ?_ ?_
            ·rintro b a w' ⟨v153, adz_v153, m11_, ha, Q_HB, Q_HO154, Q_HA_HO154, Q_X11_⟩ hb_ hon hoff
             refine ⟨_, rfl, fun K hK => ?_⟩
             have e22 : a.tmps[22]? = some (v153) := by rw [ha]; exact putSel_on (e := (1, 22, v153)) 0 rfl rfl (hon 1 (by kernel_rfl)) rfl
             have e31 : a.tmps[31]? = some (.int .i64 t157) := by rw [ha]; exact putSel_on (e := (10, 31, .int .i64 t157)) 5 rfl rfl (hon 10 (by kernel_rfl)) rfl
             replace ha := am ha
             have HB := am Q_HB
             have HO154 := am (Q_HO154 (hon 1 (by kernel_rfl)))
             have HA_HO154 := am (Q_HA_HO154 (hon 1 (by kernel_rfl)))
             obtain ⟨c_, hv_⟩ := HA_HO154.out
             rw [hv_] at e22
             refine value_ (w1 := w') (v := .pointer (some (adz_v153.add (t157).toNat))) (by rfl) rfl ?_ ?_
             ·go_simp
              (try simp only [i64_w])
              try rfl
             refine hK.out _ _ ⟨v153, adz_v153, (.pointer (some (adz_v153.add (t157).toNat))), (by rw [ha.out]; exact putSel_upk 6 hb_ rfl rfl rfl), Q_HB, Q_HO154, Q_HA_HO154, fun _ => rfl⟩
            refine steps_cons ?_ ?_
            ·rintro b a w' ⟨v153, adz_v153, m11_, ha, Q_HB, Q_HO154, Q_HA_HO154, Q_X11_⟩ hb_ hon hoff
             refine ⟨_, rfl, fun K hK => ?_⟩
             have e32 : a.tmps[32]? = some (m11_) := by rw [ha]; exact putSel_on (e := (11, 32, m11_)) 6 rfl rfl (hon 11 (by kernel_rfl)) rfl
             rw [Q_X11_ (hon 11 (by kernel_rfl))] at e32
             replace ha := am ha
             have HB := am Q_HB
             have HO154 := am (Q_HO154 (hon 1 (by kernel_rfl)))
             have HA_HO154 := am (Q_HA_HO154 (hon 1 (by kernel_rfl)))
             obtain ⟨c_, hv_⟩ := HA_HO154.out
             have hF_ := HO154.out
             rw [hv_] at hF_
             obtain ⟨ad_, ea_, hx_⟩ := Kd.at_string (Kd.R_reads' hF_).2.2 t157 (of_eq_true pi158) (of_eq_true qi158)
             cases ea_
             refine value_ (w1 := w') (v := .string (rdOf ByteArray.empty y152 t157)) (by rfl) rfl ?_ ?_
             ·go_simp
              (try simp only [i64_w])
              try rfl
             refine hK.out _ _ ⟨v153, adz_v153, m11_, (by rw [ha.out]; exact putSel_upk 7 hb_ rfl rfl rfl), Q_HB, Q_HO154, Q_HA_HO154, Q_X11_⟩
            refine steps_cons ?_ ?_
            ·rintro b a w' ⟨v153, adz_v153, m11_, ha, Q_HB, Q_HO154, Q_HA_HO154, Q_X11_⟩ hb_ hon hoff
             refine ⟨_, rfl, fun K hK => ?_⟩
             have e21 : a.tmps[21]? = some (.string x5_1) := by rw [ha]; exact (putSel_off rfl).trans rfl
             have e33 : a.tmps[33]? = some (.string (rdOf ByteArray.empty y152 t157)) := by rw [ha]; exact putSel_on (e := (12, 33, .string (rdOf ByteArray.empty y152 t157))) 7 rfl rfl (hon 12 (by kernel_rfl)) rfl
             replace ha := am ha
             have HB := am Q_HB
             have HO154 := am (Q_HO154 (hon 1 (by kernel_rfl)))
             have HA_HO154 := am (Q_HA_HO154 (hon 1 (by kernel_rfl)))
             refine value_ (w1 := w') (v := .string (x5_1 ++ (rdOf ByteArray.empty y152 t157))) (by rfl) rfl ?_ ?_
             ·go_simp
              (try simp only [i64_w])
              try rfl
             refine hK.out _ _ ⟨v153, adz_v153, m11_, (by rw [ha.out]; exact putSel_upk 8 hb_ rfl rfl rfl), Q_HB, Q_HO154, Q_HA_HO154, Q_X11_⟩
            refine steps_cons ?_ ?_
            ·rintro b a w' ⟨v153, adz_v153, m11_, ha, Q_HB, Q_HO154, Q_HA_HO154, Q_X11_⟩ hb_ hon hoff
             refine ⟨_, rfl, fun K hK => ?_⟩
             have e34 : a.tmps[34]? = some (.string (x5_1 ++ (rdOf ByteArray.empty y152 t157))) := by rw [ha]; exact putSel_on (e := (13, 34, .string (x5_1 ++ (rdOf ByteArray.empty y152 t157)))) 8 rfl rfl (hon 13 (by kernel_rfl)) rfl
             replace ha := am ha
             have HB := am Q_HB
             have HO154 := am (Q_HO154 (hon 1 (by kernel_rfl)))
             have HA_HO154 := am (Q_HA_HO154 (hon 1 (by kernel_rfl)))
             refine value_ (w1 := w') (v := .string (x5_1 ++ (rdOf ByteArray.empty y152 t157))) (by rfl) rfl ?_ ?_
             ·go_simp
              (try simp only [i64_w])
              try rfl
             refine hK.out _ _ ⟨v153, adz_v153, m11_, (by rw [ha.out]; exact putSel_upk 9 hb_ rfl rfl rfl), Q_HB, Q_HO154, Q_HA_HO154, Q_X11_⟩
            exact steps_nil
           rintro b a w33 hall ⟨v153, adz_v153, m11_, ha, Q_HB, Q_HO154, Q_HA_HO154, Q_X11_⟩
           clear HB
           have hb1_ := hall 1 (by kernel_rfl)
           have hb4_ := hall 4 (by kernel_rfl)
           have hb5_ := hall 5 (by kernel_rfl)
           have hb8_ := hall 8 (by kernel_rfl)
           have hb9_ := hall 9 (by kernel_rfl)
           have hb10_ := hall 10 (by kernel_rfl)
           have hb11_ := hall 11 (by kernel_rfl)
           have hb12_ := hall 12 (by kernel_rfl)
           have hb13_ := hall 13 (by kernel_rfl)
           have hb14_ := hall 14 (by kernel_rfl)
           subst ha
           obtain rfl := Q_X11_ hb11_
           simp only [putSel, hb1_, hb4_, hb5_, hb8_, hb9_, hb10_, hb11_, hb12_, hb13_, hb14_, if_true, Act.put, sA, sZ, sS]
           have HB := am Q_HB
           clear Q_HB
           have HO154 := am (Q_HO154 hb1_)
           clear Q_HO154
           have HA_HO154 := am (Q_HA_HO154 hb1_)
           clear Q_HA_HO154
           clear hall hb1_ hb4_ hb5_ hb8_ hb9_ hb10_ hb11_ hb12_ hb13_ hb14_
           obtain ⟨co34, eo34⟩ := HA_HO154.out
           clear HA_HO154
           subst eo34
           try go_wp2
           go_roundg k1
           case measure => have := HK1.out; omega
           case rel => exact ⟨(x5_1 ++ (rdOf ByteArray.empty y152 t157)), (wrap64 (x6_1 + 1)), (by first | rfl | (simp; done) | (simp [*]; done)), (by first | rfl | (simp; done) | (simp [*]; done)), H', ⟨by have := HK1.out; omega⟩, ⟨bu HB.out⟩⟩
          ·rw [if_neg c27] at H
           exact absurd H (by simp)
         ·rw [if_neg c26] at H
          exact absurd H (by simp)
        ·rw [if_neg c25] at H
         exact absurd H (by simp)
       ·rw [if_neg c23] at H
        exact absurd H (by simp)
      ·rw [if_neg c22] at H
       exact absurd H (by simp)
    ·rw [if_neg c6] at H
     have c6b0 : decide (x6_1 < (l0.length : Int)) = false := decide_eq_false c6
     clear c6
     obtain rfl := Option.some.inj H
     go_wp2
     go_ret
     exact ⟨by first | rfl | (simp [errW_none, errW_some] <;> rfl) | (simp [*, errW_none, errW_some] <;> rfl), bu HB.out⟩
 ·replace c4 := Bool.eq_false_iff.mpr c4
  subst c4
  have H1 : (some (⟨#[]⟩ : ByteArray)) = some r := by rw [if_neg (show ¬ (false = true) by decide)] at H; exact H
  clear H
  have H := H1
  clear H1
  obtain rfl := Option.some.inj H
  go_enter Tryd.func47, Tryd.ntmps47
  go_wp2_with (first | ((with_reducible refine gate_callee (f := 38) rfl ?_); refine goesL_ (some 9) rfl rfl Tryd.func38 (by kernel_rfl) rfl #[.slice A0 l0.length c0, .slice A1 l1.length c1] rfl (by (try simp only [List.map_toArray, List.map_cons, List.map_nil]); first | done | rfl | (simp only [List.length_drop, List.length_take]; rfl)) ?_; (with_reducible refine (spec_SingOk.calls k _ _ l0 _ _ l1 false _ ?side1 ?side2 ?side3 ?side4 A3.out).mono ?_); (case side1 => exact cu HR0.out); (case side2 => exact HC0.out); (case side3 => exact cu HR1.out); (case side4 => exact HC1.out); rintro e w35 ⟨rfl, hb⟩; refine ⟨_, rfl, ?_⟩; have n0_ := am (below_step (bu HB.out) hb); clear HB; have HB := n0_; clear n0_; (try clear hb); (try clear hb2); (try clear hk); (try clear hi)))
  go_ret
  exact ⟨by first | rfl | (simp [errW_none, errW_some] <;> rfl) | (simp [*, errW_none, errW_some] <;> rfl), bu HB.out⟩

-- INNER impl_hexachords
-- INNER impl_hexTable_at
/-! ### impl_Tone_valid: function 55 -/
def impl_Tone_valid.f (a0_0 : Int) (a0_1 : Bool) : Option (Bool) := if a0_0 ≥ 0 then (if a0_0 ≤ 20 then (if a0_1 = true then (some ((Int.tmod a0_0 7) == 2)) else (some true)) else (some false)) else (some false)
set_option maxHeartbeats 8000000 in
set_option maxRecDepth 100000 in
theorem impl_Tone_valid.calls (a0_0 : Int) (a0_1 : Bool) (r : Bool) (w : World) (h : impl_Tone_valid.f a0_0 a0_1 = some r) :
  Calls Tryd.prog 55 #[.agg #[.int .i64 a0_0, .bool a0_1]] w fun e w' => e = .returned (.bool r) ∧ Below w.heap.size w w' := by
 have hu25 := Tryd.underlying25
 have HB := am (Below.refl w.heap.size w)
 have H : (if a0_0 ≥ 0 then (if a0_0 ≤ 20 then (if a0_1 = true then (some ((Int.tmod a0_0 7) == 2)) else (some true)) else (some false)) else (some false)) = some r := h
 clear h
 by_cases c2 : a0_0 ≥ 0
 ·rw [if_pos c2] at H
  have c2b0 : decide (0 ≤ a0_0) = true := decide_eq_true c2
  clear c2
  by_cases c3 : a0_0 ≤ 20
  ·rw [if_pos c3] at H
   have c3b0 : decide (a0_0 ≤ 20) = true := decide_eq_true c3
   clear c3
   by_cases c4 : a0_1 = true
   ·subst c4
    have H1 : (some ((Int.tmod a0_0 7) == 2)) = some r := by rw [if_pos rfl] at H; exact H
    clear H
    have H := H1
    clear H1
    obtain rfl := Option.some.inj H
    go_enter Tryd.func55, Tryd.ntmps55
    go_wp2_with (first | ((with_reducible refine gate_dst (N := 1) rfl ?_); refine box_event ?hg (N := 1) ?hd (cs := #[.int .i64 a0_0, .bool true]) (t := 25) ?hr ?_; (case hd => rfl); (case hg => rfl); (case hr => first | (go_simp; done) | (go_simp; rfl)); intro gb159 hg w5 hbox hb; have n0_ := am (below_step (bu HB.out) hb); have n1_ := am (hbox); have n2_ := am ((by rw [hg]; exact (below_size (bu HB.out)) : w.heap.size ≤ gb159)); have n3_ := am ((by rw [hg]; exact (below_size (bu HB.out)) : w.heap.size ≤ gb159)); clear HB; have HB := n0_; have BK159 := n1_; have GW159 := n2_; have GE159 := n3_; clear n0_ n1_ n2_ n3_; clear hb hbox hg; have hcz6_0 : w5.cell? ⟨gb159, 0, none⟩ = some (.int .i64 a0_0) := (blk_cell BK159.out 0).trans rfl; have hcz6_1 : w5.cell? ⟨gb159, 1, none⟩ = some (.bool true) := (blk_cell BK159.out 1).trans rfl; have hfz6_0 := blk_frozen BK159.out 0; have hfz6_1 := blk_frozen BK159.out 1))
    go_ret
    exact ⟨by first | rfl | (simp [errW_none, errW_some] <;> rfl) | (simp [*, errW_none, errW_some] <;> rfl), bu HB.out⟩
   ·replace c4 := Bool.eq_false_iff.mpr c4
    subst c4
    have H1 : (some true) = some r := by rw [if_neg (show ¬ (false = true) by decide)] at H; exact H
    clear H
    have H := H1
    clear H1
    obtain rfl := Option.some.inj H
    go_enter Tryd.func55, Tryd.ntmps55
    go_wp2_with (first | ((with_reducible refine gate_dst (N := 1) rfl ?_); refine box_event ?hg (N := 1) ?hd (cs := #[.int .i64 a0_0, .bool false]) (t := 25) ?hr ?_; (case hd => rfl); (case hg => rfl); (case hr => first | (go_simp; done) | (go_simp; rfl)); intro gb159 hg w7 hbox hb; have n0_ := am (below_step (bu HB.out) hb); have n1_ := am (hbox); have n2_ := am ((by rw [hg]; exact (below_size (bu HB.out)) : w.heap.size ≤ gb159)); have n3_ := am ((by rw [hg]; exact (below_size (bu HB.out)) : w.heap.size ≤ gb159)); clear HB; have HB := n0_; have BK159 := n1_; have GW159 := n2_; have GE159 := n3_; clear n0_ n1_ n2_ n3_; clear hb hbox hg; have hcz8_0 : w7.cell? ⟨gb159, 0, none⟩ = some (.int .i64 a0_0) := (blk_cell BK159.out 0).trans rfl; have hcz8_1 : w7.cell? ⟨gb159, 1, none⟩ = some (.bool false) := (blk_cell BK159.out 1).trans rfl; have hfz8_0 := blk_frozen BK159.out 0; have hfz8_1 := blk_frozen BK159.out 1))
    go_ret
    exact ⟨by first | rfl | (simp [errW_none, errW_some] <;> rfl) | (simp [*, errW_none, errW_some] <;> rfl), bu HB.out⟩
  ·rw [if_neg c3] at H
   have c3b0 : decide (a0_0 ≤ 20) = false := decide_eq_false c3
   clear c3
   obtain rfl := Option.some.inj H
   go_enter Tryd.func55, Tryd.ntmps55
   go_wp2_with (first | ((with_reducible refine gate_dst (N := 1) rfl ?_); refine box_event ?hg (N := 1) ?hd (cs := #[.int .i64 a0_0, .bool a0_1]) (t := 25) ?hr ?_; (case hd => rfl); (case hg => rfl); (case hr => first | (go_simp; done) | (go_simp; rfl)); intro gb159 hg w9 hbox hb; have n0_ := am (below_step (bu HB.out) hb); have n1_ := am (hbox); have n2_ := am ((by rw [hg]; exact (below_size (bu HB.out)) : w.heap.size ≤ gb159)); have n3_ := am ((by rw [hg]; exact (below_size (bu HB.out)) : w.heap.size ≤ gb159)); clear HB; have HB := n0_; have BK159 := n1_; have GW159 := n2_; have GE159 := n3_; clear n0_ n1_ n2_ n3_; clear hb hbox hg; have hcz10_0 : w9.cell? ⟨gb159, 0, none⟩ = some (.int .i64 a0_0) := (blk_cell BK159.out 0).trans rfl; have hcz10_1 : w9.cell? ⟨gb159, 1, none⟩ = some (.bool a0_1) := (blk_cell BK159.out 1).trans rfl; have hfz10_0 := blk_frozen BK159.out 0; have hfz10_1 := blk_frozen BK159.out 1))
   go_ret
   exact ⟨by first | rfl | (simp [errW_none, errW_some] <;> rfl) | (simp [*, errW_none, errW_some] <;> rfl), bu HB.out⟩
 ·rw [if_neg c2] at H
  have c2b0 : decide (0 ≤ a0_0) = false := decide_eq_false c2
  clear c2
  obtain rfl := Option.some.inj H
  go_enter Tryd.func55, Tryd.ntmps55
  go_wp2_with (first | ((with_reducible refine gate_dst (N := 1) rfl ?_); refine box_event ?hg (N := 1) ?hd (cs := #[.int .i64 a0_0, .bool a0_1]) (t := 25) ?hr ?_; (case hd => rfl); (case hg => rfl); (case hr => first | (go_simp; done) | (go_simp; rfl)); intro gb159 hg w11 hbox hb; have n0_ := am (below_step (bu HB.out) hb); have n1_ := am (hbox); have n2_ := am ((by rw [hg]; exact (below_size (bu HB.out)) : w.heap.size ≤ gb159)); have n3_ := am ((by rw [hg]; exact (below_size (bu HB.out)) : w.heap.size ≤ gb159)); clear HB; have HB := n0_; have BK159 := n1_; have GW159 := n2_; have GE159 := n3_; clear n0_ n1_ n2_ n3_; clear hb hbox hg; have hcz12_0 : w11.cell? ⟨gb159, 0, none⟩ = some (.int .i64 a0_0) := (blk_cell BK159.out 0).trans rfl; have hcz12_1 : w11.cell? ⟨gb159, 1, none⟩ = some (.bool a0_1) := (blk_cell BK159.out 1).trans rfl; have hfz12_0 := blk_frozen BK159.out 0; have hfz12_1 := blk_frozen BK159.out 1))
  go_ret
  exact ⟨by first | rfl | (simp [errW_none, errW_some] <;> rfl) | (simp [*, errW_none, errW_some] <;> rfl), bu HB.out⟩

-- INNER impl_hexachord_syllable
end Go.Proofs.YtjefoedojglhpaaDoor.ST
