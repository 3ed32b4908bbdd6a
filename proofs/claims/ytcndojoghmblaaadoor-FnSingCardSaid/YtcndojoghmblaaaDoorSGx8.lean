-- Made by this session's gprint.py out of the translation. Not trusted: Lean checks it.
import Derived.Test.YtcndojoghmblaaaDoorSGx0
import Derived.Test.YtcndojoghmblaaaDoorSGx4
import Derived.Test.YtcndojoghmblaaaDoorSGx5
import Derived.Test.YtcndojoghmblaaaDoorSGx6
import Derived.Test.YtcndojoghmblaaaDoorSGx7
namespace Go.Proofs.YtcndojoghmblaaaDoor.SG
open Go.RowKit Go.Proofs.YtcndojoghmblaaaDoorW.PrintWords Go.Proofs.YtcndojoghmblaaaDoorW.PrintLast Go.Proofs.YtcndojoghmblaaaDoorW.PrintMore
attribute [local go_sem] max2_int min2_int max_two min_two max_three min_three max_four min_four   -- for this text's walks alone
set_option linter.unusedVariables false
set_option linter.unusedSimpArgs false

/-! ### spec_SingText: function 44 -/
def spec_SingText.l0 : Nat → List (S30) → List Int → ByteArray → Int → Option (ByteArray)
 | 0, _, _, _, _ => none
 | k + 1, x0, x1, x5, x6 => if x6 < (x0.length : Int) then (if x6 > 0 then (if x5.size + 1 ≤ 9223372036854775807 then ((some (([(⟨#[117, 116]⟩ : ByteArray), (⟨#[114, 101]⟩ : ByteArray), (⟨#[109, 105]⟩ : ByteArray), (⟨#[102, 97]⟩ : ByteArray), (⟨#[115, 111, 108]⟩ : ByteArray), (⟨#[108, 97]⟩ : ByteArray)] : List ByteArray) : List ByteArray)).bind fun y233 => (if 0 ≤ x6 then (if x6 < (x1.length : Int) then ((spec_HexSyllable.f k (rd x1 x6) ((rd_T30 x0 x6).f0) ((rd_T30 x0 x6).f1)).bind fun t238 => (if 0 ≤ t238 then (if t238 < (y233.length : Int) then (if (x5 ++ (⟨#[32]⟩ : ByteArray)).size + (rdOf ByteArray.empty y233 t238).size ≤ 9223372036854775807 then (spec_SingText.l0 k x0 x1 ((x5 ++ (⟨#[32]⟩ : ByteArray)) ++ (rdOf ByteArray.empty y233 t238)) (wrap64 (x6 + 1))) else (none)) else (none)) else (none))) else (none)) else (none))) else (none)) else ((some (([(⟨#[117, 116]⟩ : ByteArray), (⟨#[114, 101]⟩ : ByteArray), (⟨#[109, 105]⟩ : ByteArray), (⟨#[102, 97]⟩ : ByteArray), (⟨#[115, 111, 108]⟩ : ByteArray), (⟨#[108, 97]⟩ : ByteArray)] : List ByteArray) : List ByteArray)).bind fun y240 => (if 0 ≤ x6 then (if x6 < (x1.length : Int) then ((spec_HexSyllable.f k (rd x1 x6) ((rd_T30 x0 x6).f0) ((rd_T30 x0 x6).f1)).bind fun t245 => (if 0 ≤ t245 then (if t245 < (y240.length : Int) then (if x5.size + (rdOf ByteArray.empty y240 t245).size ≤ 9223372036854775807 then (spec_SingText.l0 k x0 x1 (x5 ++ (rdOf ByteArray.empty y240 t245)) (wrap64 (x6 + 1))) else (none)) else (none)) else (none))) else (none)) else (none)))) else (some x5)
def spec_SingText.f (k : Nat) (l0 : List (S30)) (l1 : List Int) : Option (ByteArray) := (spec_SingOk.f k l0 l1).bind fun t232 => (if t232 = true then (spec_SingText.l0 k l0 l1 (⟨#[]⟩ : ByteArray) 0) else (some (⟨#[]⟩ : ByteArray)))
def spec_SingText.T9 : Bool × List (List Nat × List Nat) := (true, [([], []), ([], []), ([], []), ([], []), ([2, 3], [2, 3]), ([4], [4]), ([], []), ([], []), ([6, 7], [6, 7]), ([8], [8]), ([5, 9], [5, 9]), ([1, 10], [1, 10]), ([11], [11]), ([0, 12], [0, 12]), ([13, 10, 0, 1, 2, 3, 4, 5, 6, 7, 8, 9, 10, 11, 12, 13], [0, 13])])
def spec_SingText.B9 : List Nat := [0, 0, 0, 0, 12, 28, 0, 0, 192, 448, 1020, 2046, 4094, 8191, 16383]
theorem spec_SingText.tab9 : rtab .any (opsOf Tryd.f44 9) = spec_SingText.T9 := by kernel_rfl
theorem spec_SingText.bits9 : waitsOk spec_SingText.T9.2 spec_SingText.B9 = true := by kernel_rfl
set_option maxHeartbeats 8000000 in
set_option maxRecDepth 100000 in
theorem spec_SingText.calls (k : Nat) (A0 : Option Addr) (c0 : Nat) (l0 : List (S30)) (A1 : Option Addr) (c1 : Nat) (l1 : List Int) (r : ByteArray) (w : World) (hr0 : Kd.C k30 w A0 l0.length l0) (hc0 : l0.length ≤ c0) (hr1 : Kd.C (Kd.int .i64) w A1 l1.length l1) (hc1 : l1.length ≤ c1) (h : spec_SingText.f k l0 l1 = some r) :
  Calls Tryd.prog 44 #[.slice A0 l0.length c0, .slice A1 l1.length c1] w fun e w' => e = .returned (.string r) ∧ Below w.heap.size w w' := by
 have hu30 := Tryd.underlying30
 have HR0 := am hr0
 have HC0 := am hc0
 clear hr0 hc0
 have HR1 := am hr1
 have HC1 := am hc1
 clear hr1 hc1
 have HB := am (Below.refl w.heap.size w)
 have H : ((spec_SingOk.f k l0 l1).bind fun t232 => (if t232 = true then (spec_SingText.l0 k l0 l1 (⟨#[]⟩ : ByteArray) 0) else (some (⟨#[]⟩ : ByteArray)))) = some r := h
 clear h
 replace H := Option.bind_eq_some_iff.mp H
 obtain ⟨t232, A30, H⟩ := H
 replace H : (if t232 = true then (spec_SingText.l0 k l0 l1 (⟨#[]⟩ : ByteArray) 0) else (some (⟨#[]⟩ : ByteArray))) = some r := H
 have A3 := am A30
 clear A30
 by_cases c4 : t232 = true
 ·subst c4
  have H1 : (spec_SingText.l0 k l0 l1 (⟨#[]⟩ : ByteArray) 0) = some r := by rw [if_pos rfl] at H; exact H
  clear H
  have H := H1
  clear H1
  have H' := am H
  clear H
  go_enter Tryd.func44, Tryd.ntmps44
  go_wp2_with (first | ((with_reducible refine gate_callee (f := 101) rfl ?_); refine goesL_ (some 9) rfl rfl Tryd.func101 (by kernel_rfl) rfl #[.slice A0 l0.length c0, .slice A1 l1.length c1] rfl (by (try simp only [List.map_toArray, List.map_cons, List.map_nil]); first | done | rfl | (simp only [List.length_drop, List.length_take]; rfl)) ?_; (with_reducible refine (spec_SingOk.calls k _ _ l0 _ _ l1 true _ ?side1 ?side2 ?side3 ?side4 A3.out).mono ?_); (case side1 => exact cu HR0.out); (case side2 => exact HC0.out); (case side3 => exact cu HR1.out); (case side4 => exact HC1.out); rintro e w5 ⟨rfl, hb⟩; refine ⟨_, rfl, ?_⟩; have n0_ := am (below_step (bu HB.out) hb); clear HB; have HB := n0_; clear n0_; (try clear hb); (try clear hb2); (try clear hk); (try clear hi)))
  go_loopg [5, 6] k (fun kq v5 v6 w' => ∃ (x5_1 : ByteArray) (x6_1 : Int), v5 = .string x5_1 ∧ v6 = .int .i64 x6_1 ∧ Aside0 (spec_SingText.l0 kq l0 l1 x5_1 x6_1 = some r) ∧ Aside0 (kq ≤ k) ∧ Aside0 (Below w.heap.size w w'))
  case atStart => exact ⟨((⟨#[]⟩ : ByteArray)), (0), (by first | rfl | (simp; done) | (simp [*]; done)), (by first | rfl | (simp; done) | (simp [*]; done)), H', ⟨Nat.le_refl _⟩, ⟨bu HB.out⟩⟩
  case round =>
   clear H'
   try clear c1
   try clear p2
   try clear c4
   obtain ⟨x5_1, x6_1, rfl, rfl, HA, HK1, HB⟩ := hrel
   cases gk with
   | zero => exact absurd HA.out (by simp [spec_SingText.l0])
   | succ k1 =>
    have H := HA.out
    clear HA
    simp only [spec_SingText.l0] at H
    by_cases c6 : x6_1 < (l0.length : Int)
    ·rw [if_pos c6] at H
     have c6b0 : decide (x6_1 < (l0.length : Int)) = true := decide_eq_true c6
     clear c6
     by_cases c7 : x6_1 > 0
     ·rw [if_pos c7] at H
      have c7b0 : decide (0 < x6_1) = true := decide_eq_true c7
      clear c7
      by_cases c8 : x5_1.size + 1 ≤ 9223372036854775807
      ·rw [if_pos c8] at H
       have c8b0 := eq_true c8
       have c8b1 : decide (x5_1.size + 1 ≤ 9223372036854775807) = true := decide_eq_true c8
       try have c8b2 : (9223372036854775807 < x5_1.size + 1) = False := eq_false (Nat.not_lt.2 c8)
       obtain ⟨y233, hy233⟩ : ∃ y_ : List ByteArray, y_ = (([(⟨#[117, 116]⟩ : ByteArray), (⟨#[114, 101]⟩ : ByteArray), (⟨#[109, 105]⟩ : ByteArray), (⟨#[102, 97]⟩ : ByteArray), (⟨#[115, 111, 108]⟩ : ByteArray), (⟨#[108, 97]⟩ : ByteArray)] : List ByteArray)) := ⟨_, rfl⟩
       replace H : (if 0 ≤ x6_1 then (if x6_1 < (l1.length : Int) then ((spec_HexSyllable.f k1 (rd l1 x6_1) ((rd_T30 l0 x6_1).f0) ((rd_T30 l0 x6_1).f1)).bind fun t238 => (if 0 ≤ t238 then (if t238 < (y233.length : Int) then (if (x5_1 ++ (⟨#[32]⟩ : ByteArray)).size + (rdOf ByteArray.empty y233 t238).size ≤ 9223372036854775807 then (spec_SingText.l0 k1 l0 l1 ((x5_1 ++ (⟨#[32]⟩ : ByteArray)) ++ (rdOf ByteArray.empty y233 t238)) (wrap64 (x6_1 + 1))) else (none)) else (none)) else (none))) else (none)) else (none)) = some r := by first | (rw [hy233]; with_reducible exact H) | (have H2_ := (Option.bind_some _ _).symm.trans H; rw [hy233]; with_reducible exact H2_) | (have H2_ := (Option.bind_some _ _).symm.trans H; with_reducible exact H2_) | with_reducible exact H | (rw [hy233]; exact H) | exact H
       have Ny233 := am hy233
       clear hy233
       by_cases c9 : 0 ≤ x6_1
       ·rw [if_pos c9] at H
        have c9b0 : decide (0 ≤ x6_1) = true := decide_eq_true c9
        clear c9
        by_cases c10 : x6_1 < (l1.length : Int)
        ·rw [if_pos c10] at H
         have c10b0 : decide (x6_1 < (l1.length : Int)) = true := decide_eq_true c10
         clear c10
         replace H := Option.bind_eq_some_iff.mp H
         obtain ⟨t238, A110, H⟩ := H
         replace H : (if 0 ≤ t238 then (if t238 < (y233.length : Int) then (if (x5_1 ++ (⟨#[32]⟩ : ByteArray)).size + (rdOf ByteArray.empty y233 t238).size ≤ 9223372036854775807 then (spec_SingText.l0 k1 l0 l1 ((x5_1 ++ (⟨#[32]⟩ : ByteArray)) ++ (rdOf ByteArray.empty y233 t238)) (wrap64 (x6_1 + 1))) else (none)) else (none)) else (none)) = some r := H
         have A11 := am A110
         clear A110
         by_cases c12 : 0 ≤ t238
         ·rw [if_pos c12] at H
          have c12b0 : decide (0 ≤ t238) = true := decide_eq_true c12
          clear c12
          by_cases c13 : t238 < (y233.length : Int)
          ·rw [if_pos c13] at H
           have c13b0 : decide (t238 < (y233.length : Int)) = true := decide_eq_true c13
           clear c13
           by_cases c14 : (x5_1 ++ (⟨#[32]⟩ : ByteArray)).size + (rdOf ByteArray.empty y233 t238).size ≤ 9223372036854775807
           ·rw [if_pos c14] at H
            have c14b0 := eq_true c14
            have c14b1 : decide ((x5_1 ++ (⟨#[32]⟩ : ByteArray)).size + (rdOf ByteArray.empty y233 t238).size ≤ 9223372036854775807) = true := decide_eq_true c14
            try have c14b2 : (9223372036854775807 < (x5_1 ++ (⟨#[32]⟩ : ByteArray)).size + (rdOf ByteArray.empty y233 t238).size) = False := eq_false (Nat.not_lt.2 c14)
            have H' := am H
            clear H
            try go_wp2
            have pi239 : (0 ≤ (t238 : Int)) = True := eq_true (od)
            have qi239 : (t238 < (y233.length : Int)) = True := eq_true (od)
            have n0_ := am (below_drew1 HB.out)
            clear HB
            have HB := n0_
            clear n0_
            have p236 : 0 ≤ (x6_1 : Int) := od
            have q236 : x6_1 < (l1.length : Int) := od
            obtain ⟨ad236, e236, hx236_0⟩ := Kd.at_int HR1.out x6_1 p236 q236
            have hw236_0 := hx236_0
            cases e236
            replace hx236_0 := (HB.out.cell (World.block_lt_of_cell? w _ hx236_0)).trans hx236_0
            replace p236 := eq_true p236
            replace q236 := eq_true q236
            have p237 : 0 ≤ (x6_1 : Int) := od
            have q237 : x6_1 < (l0.length : Int) := od
            obtain ⟨ad237, e237, hx237_0, hx237_1⟩ := at_T30 HR0.out x6_1 p237 q237
            have hw237_1 := hx237_1
            have hw237_0 := hx237_0
            cases e237
            replace hx237_0 := (HB.out.cell (World.block_lt_of_cell? w _ hx237_0)).trans hx237_0
            replace hx237_1 := (HB.out.cell (World.block_lt_of_cell? w _ hx237_1)).trans hx237_1
            replace p237 := eq_true p237
            replace q237 := eq_true q237
            refine start_ (n := 15) (S := fun w' => True) (ds := []) #[F,F,F,F,F,F,F,F,F,F,F,F,F,F,F] (by kernel_rfl) rfl rfl trivial (fun hHeld => ?_); refine with_tabW spec_SingText.tab9 spec_SingText.bits9 (fun HT_ HW_ => ?_)
            generalize wr.drew = w15 at HB hx236_0 hx237_0 hx237_1 hHeld ⊢
            refine pz 0 (some 21) #[T,F,F,F,F,F,F,F,F,F,F,F,F,F,F] (any_of HT_.out (by kernel_rfl)) (h := ?_)
            refine pz 2 (some 23) #[T,F,T,F,F,F,F,F,F,F,F,F,F,F,F] (any_of HT_.out (by kernel_rfl)) (h := ?_)
            refine pz 3 (some 24) #[T,F,T,T,F,F,F,F,F,F,F,F,F,F,F] (any_of HT_.out (by kernel_rfl)) (h := ?_)
            refine pz 6 (some 27) #[T,F,T,T,F,F,T,F,F,F,F,F,F,F,F] (any_of HT_.out (by kernel_rfl)) (h := ?_)
            refine pz 7 (some 28) #[T,F,T,T,F,F,T,T,F,F,F,F,F,F,F] (any_of HT_.out (by kernel_rfl)) (h := ?_)
            refine inv_at [1, 4, 5, 8, 9, 10, 11, 12, 13, 14] (fun a0_ b a w' => ∃ (v234 : Value) (adz_v234 : Addr) (m11_ : Value), a = putSel a0_ b [(1, 22, v234), (4, 25, .pointer (some (ad236.add (x6_1).toNat))), (5, 26, .int .i64 (rd l1 x6_1)), (8, 29, .pointer (some (ad237.add ((x6_1).toNat * 2)))), (9, 30, .agg #[.int .i64 ((rd_T30 l0 x6_1).f0), .bool ((rd_T30 l0 x6_1).f1)]), (10, 31, .int .i64 t238), (11, 32, m11_), (12, 33, .string (rdOf ByteArray.empty y233 t238)), (13, 34, .string ((x5_1 ++ (⟨#[32]⟩ : ByteArray)) ++ (rdOf ByteArray.empty y233 t238))), (14, 5, .string ((x5_1 ++ (⟨#[32]⟩ : ByteArray)) ++ (rdOf ByteArray.empty y233 t238)))] ∧ (Below w.heap.size w w') ∧ (b 1 = true → Kd.R Kd.string 9 w' w.heap.size (fun _ => True) v234 y233) ∧ (b 1 = true → ∃ c_, (v234 : Value) = .slice (some adz_v234) y233.length c_) ∧ (b 11 = true → (m11_ : Value) = .pointer (some (adz_v234.add (t238).toNat)))) HT_.out HW_.out (by kernel_rfl) (by kernel_rfl) ?_ ?_ ?_
            ·exact ⟨.bool false, ⟨0, 0, none⟩, .bool false, by simp only [putSel, Bool.false_eq_true, if_false], HB.out, fun h_ => absurd h_ (by decide), fun h_ => absurd h_ (by decide), fun h_ => absurd h_ (by decide)⟩
            ·skip
             clear HB
             refine steps_cons ?_ ?_
             ·rintro b a w' ⟨v234, adz_v234, m11_, ha, Q_HB, Q_HO235, Q_HA_HO235, Q_X11_⟩ hb_ hon hoff
              refine ⟨_, rfl, fun K hK => ?_⟩
              replace ha := am ha
              have HB := am Q_HB
              refine Kd.R_lit_step Kd.string _ 9 ?hg (N := 22) ?hd (xs := ([(⟨#[117, 116]⟩ : ByteArray), (⟨#[114, 101]⟩ : ByteArray), (⟨#[109, 105]⟩ : ByteArray), (⟨#[102, 97]⟩ : ByteArray), (⟨#[115, 111, 108]⟩ : ByteArray), (⟨#[108, 97]⟩ : ByteArray)] : List ByteArray)) (inner := [.string (⟨#[117, 116]⟩ : ByteArray), .string (⟨#[114, 101]⟩ : ByteArray), .string (⟨#[109, 105]⟩ : ByteArray), .string (⟨#[102, 97]⟩ : ByteArray), .string (⟨#[115, 111, 108]⟩ : ByteArray), .string (⟨#[108, 97]⟩ : ByteArray)]) (ok := fun _ => True) (okp := fun _ => True) ?hr ?hp (fun _ hk => hk) trivial (Below.refl _ _) (Nat.le_refl _) (by simp) ?_; (case hd => rfl); (case hg => rfl); (case hr => first | (go_simp; done) | (go_simp; rfl)); (case hp => exact (Reps.one (show Kd.M Kd.string _ _ _ (⟨#[117, 116]⟩ : ByteArray) [.string (⟨#[117, 116]⟩ : ByteArray)] from rfl) (Reps.one (show Kd.M Kd.string _ _ _ (⟨#[114, 101]⟩ : ByteArray) [.string (⟨#[114, 101]⟩ : ByteArray)] from rfl) (Reps.one (show Kd.M Kd.string _ _ _ (⟨#[109, 105]⟩ : ByteArray) [.string (⟨#[109, 105]⟩ : ByteArray)] from rfl) (Reps.one (show Kd.M Kd.string _ _ _ (⟨#[102, 97]⟩ : ByteArray) [.string (⟨#[102, 97]⟩ : ByteArray)] from rfl) (Reps.one (show Kd.M Kd.string _ _ _ (⟨#[115, 111, 108]⟩ : ByteArray) [.string (⟨#[115, 111, 108]⟩ : ByteArray)] from rfl) (Reps.one (show Kd.M Kd.string _ _ _ (⟨#[108, 97]⟩ : ByteArray) [.string (⟨#[108, 97]⟩ : ByteArray)] from rfl) (Reps.none _ _))))))))
              intro v234 w16 ho17 hb hg_ hnew_
              clear hg_ hnew_
              (first | rw [← Ny233.out] at ho17 | (simp only [Int.reduceToNat] at ho17; rw [← Ny233.out] at ho17))
              have n0_ := am (Kd.R_lower ho17 (below_size (bu HB.out)))
              have n1_ := am (below_step (bu HB.out) hb)
              clear HB
              have HO235 := n0_
              have HB := n1_
              clear n0_ n1_
              clear hb ho17
              obtain ⟨Ao18, co18, eo18⟩ := Kd.R_slice HO235.out
              subst eo18
              obtain ⟨ado18, fo18, _⟩ := Kd.at_string (Kd.R_reads' HO235.out).2.2 0 (by decide) (by rw [Ny233.out]; simp)
              cases fo18
              refine hK.out _ _ ⟨.slice (some ado18) y233.length co18, ado18, m11_, (by rw [ha.out]; exact putSel_upk 0 hb_ rfl rfl rfl), (bu HB.out), fun _ => (ru HO235.out), fun _ => ⟨_, rfl⟩, fun h0_ => absurd ((hoff 11 (by kernel_rfl)).symm.trans h0_) (by decide)⟩
             refine steps_cons ?_ ?_
             ·rintro b a w' ⟨v234, adz_v234, m11_, ha, Q_HB, Q_HO235, Q_HA_HO235, Q_X11_⟩ hb_ hon hoff
              refine ⟨_, rfl, fun K hK => ?_⟩
              have e23 : a.tmps[23]? = some (.slice (some ad236) l1.length c1) := by rw [ha]; exact (putSel_off rfl).trans rfl
              have e24 : a.tmps[24]? = some (.int .i64 x6_1) := by rw [ha]; exact (putSel_off rfl).trans rfl
              replace ha := am ha
              have HB := am Q_HB
              have hs0_ : w'.cell? (ad236.add (x6_1).toNat) = some (.int .i64 (rd l1 x6_1)) := ((HB.out.cell (World.block_lt_of_cell? w _ hw236_0)).trans hw236_0)
              refine value_ (w1 := w') (v := .pointer (some (ad236.add (x6_1).toNat))) (by rfl) rfl ?_ ?_
              ·go_simp
               (try simp only [i64_w])
               try rfl
              refine hK.out _ _ ⟨v234, adz_v234, m11_, (by rw [ha.out]; exact putSel_upk 1 hb_ rfl rfl rfl), Q_HB, Q_HO235, Q_HA_HO235, fun h0_ => absurd ((hoff 11 (by kernel_rfl)).symm.trans h0_) (by decide)⟩
             refine steps_cons ?_ ?_
             ·rintro b a w' ⟨v234, adz_v234, m11_, ha, Q_HB, Q_HO235, Q_HA_HO235, Q_X11_⟩ hb_ hon hoff
              refine ⟨_, rfl, fun K hK => ?_⟩
              have e25 : a.tmps[25]? = some (.pointer (some (ad236.add (x6_1).toNat))) := by rw [ha]; exact putSel_on (e := (4, 25, .pointer (some (ad236.add (x6_1).toNat)))) 1 rfl rfl (hon 4 (by kernel_rfl)) rfl
              replace ha := am ha
              have HB := am Q_HB
              have hs0_ : w'.cell? (ad236.add (x6_1).toNat) = some (.int .i64 (rd l1 x6_1)) := ((HB.out.cell (World.block_lt_of_cell? w _ hw236_0)).trans hw236_0)
              refine value_ (w1 := w') (v := .int .i64 (rd l1 x6_1)) (by rfl) rfl ?_ ?_
              ·go_simp
               (try simp only [i64_w])
               try rfl
              refine hK.out _ _ ⟨v234, adz_v234, m11_, (by rw [ha.out]; exact putSel_upk 2 hb_ rfl rfl rfl), Q_HB, Q_HO235, Q_HA_HO235, fun h0_ => absurd ((hoff 11 (by kernel_rfl)).symm.trans h0_) (by decide)⟩
             refine steps_cons ?_ ?_
             ·rintro b a w' ⟨v234, adz_v234, m11_, ha, Q_HB, Q_HO235, Q_HA_HO235, Q_X11_⟩ hb_ hon hoff
              refine ⟨_, rfl, fun K hK => ?_⟩
              have e27 : a.tmps[27]? = some (.slice (some ad237) l0.length c0) := by rw [ha]; exact (putSel_off rfl).trans rfl
              have e28 : a.tmps[28]? = some (.int .i64 x6_1) := by rw [ha]; exact (putSel_off rfl).trans rfl
              replace ha := am ha
              have HB := am Q_HB
              have hs1_ : w'.cell? (ad237.add ((x6_1).toNat * 2)) = some (.int .i64 ((rd_T30 l0 x6_1).f0)) := ((HB.out.cell (World.block_lt_of_cell? w _ hw237_0)).trans hw237_0)
              have hs2_ : w'.cell? ⟨(ad237.add ((x6_1).toNat * 2)).block, (ad237.add ((x6_1).toNat * 2)).off + 1, none⟩ = some (.bool ((rd_T30 l0 x6_1).f1)) := ((HB.out.cell (World.block_lt_of_cell? w _ hw237_1)).trans hw237_1)
              refine value_ (w1 := w') (v := .pointer (some (ad237.add ((x6_1).toNat * 2)))) (by rfl) rfl ?_ ?_
              ·go_simp
               (try simp only [i64_w])
               try rfl
              refine hK.out _ _ ⟨v234, adz_v234, m11_, (by rw [ha.out]; exact putSel_upk 3 hb_ rfl rfl rfl), Q_HB, Q_HO235, Q_HA_HO235, fun h0_ => absurd ((hoff 11 (by kernel_rfl)).symm.trans h0_) (by decide)⟩
             refine steps_cons ?_ ?_
             ·rintro b a w' ⟨v234, adz_v234, m11_, ha, Q_HB, Q_HO235, Q_HA_HO235, Q_X11_⟩ hb_ hon hoff
              refine ⟨_, rfl, fun K hK => ?_⟩
              have e29 : a.tmps[29]? = some (.pointer (some (ad237.add ((x6_1).toNat * 2)))) := by rw [ha]; exact putSel_on (e := (8, 29, .pointer (some (ad237.add ((x6_1).toNat * 2))))) 3 rfl rfl (hon 8 (by kernel_rfl)) rfl
              replace ha := am ha
              have HB := am Q_HB
              have hs1_ : w'.cell? (ad237.add ((x6_1).toNat * 2)) = some (.int .i64 ((rd_T30 l0 x6_1).f0)) := ((HB.out.cell (World.block_lt_of_cell? w _ hw237_0)).trans hw237_0)
              have hs2_ : w'.cell? ⟨(ad237.add ((x6_1).toNat * 2)).block, (ad237.add ((x6_1).toNat * 2)).off + 1, none⟩ = some (.bool ((rd_T30 l0 x6_1).f1)) := ((HB.out.cell (World.block_lt_of_cell? w _ hw237_1)).trans hw237_1)
              refine value_ (w1 := w') (v := .agg #[.int .i64 ((rd_T30 l0 x6_1).f0), .bool ((rd_T30 l0 x6_1).f1)]) (by rfl) rfl ?_ ?_
              ·go_simp
               (try simp only [i64_w])
               try rfl
              refine hK.out _ _ ⟨v234, adz_v234, m11_, (by rw [ha.out]; exact putSel_upk 4 hb_ rfl rfl rfl), Q_HB, Q_HO235, Q_HA_HO235, fun h0_ => absurd ((hoff 11 (by kernel_rfl)).symm.trans h0_) (by decide)⟩
             refine steps_cons ?_ ?_
             ·rintro b a w' ⟨v234, adz_v234, m11_, ha, Q_HB, Q_HO235, Q_HA_HO235, Q_X11_⟩ hb_ hon hoff
              refine ⟨_, rfl, fun K hK => ?_⟩
              have e26 : a.tmps[26]? = some (.int .i64 (rd l1 x6_1)) := by rw [ha]; exact putSel_on (e := (5, 26, .int .i64 (rd l1 x6_1))) 2 rfl rfl (hon 5 (by kernel_rfl)) rfl
              have e30 : a.tmps[30]? = some (.agg #[.int .i64 ((rd_T30 l0 x6_1).f0), .bool ((rd_T30 l0 x6_1).f1)]) := by rw [ha]; exact putSel_on (e := (9, 30, .agg #[.int .i64 ((rd_T30 l0 x6_1).f0), .bool ((rd_T30 l0 x6_1).f1)])) 4 rfl rfl (hon 9 (by kernel_rfl)) rfl
              replace ha := am ha
              have HB := am Q_HB
              refine goes_ Tryd.func102 (by kernel_rfl) rfl #[.int .i64 (rd l1 x6_1), .agg #[.int .i64 ((rd_T30 l0 x6_1).f0), .bool ((rd_T30 l0 x6_1).f1)]] (by rfl) rfl rfl (by first | (simp only [List.map_toArray, List.map_cons, List.map_nil, Act.eval, Array.getD_eq_getD_getElem?, Option.getD_some, e26, e30]; done) | (simp only [List.map_toArray, List.map_cons, List.map_nil, Act.eval, Array.getD_eq_getD_getElem?, Option.getD_some, e26, e30]; rfl)) ?_
              with_reducible refine (spec_HexSyllable.calls k1 (rd l1 x6_1) ((rd_T30 l0 x6_1).f0) ((rd_T30 l0 x6_1).f1) t238 _ A11.out).mono ?_
              rintro e w16 ⟨rfl, hb⟩
              refine ⟨_, rfl, ?_⟩
              have n0_ := am (below_step (bu HB.out) hb)
              have z_HO235 := fun (h0_ : b 1 = true) => (show Kd.R Kd.string 9 w16 w.heap.size (fun _ => True) v234 y233 from by first | exact (Kd.R_below (by (with_reducible repeat (first | apply Kd.R_alloc | apply Kd.R_drewN | apply Kd.R_drew)); exact (Q_HO235 h0_)) hb) | exact Kd.R_mono (Kd.R_below (by (with_reducible repeat (first | apply Kd.R_alloc | apply Kd.R_drewN | apply Kd.R_drew)); exact (Q_HO235 h0_)) hb) (fun _ h_ => by first | trivial | exact h_ | exact h_.1))
              clear HB
              have HB := n0_
              clear n0_
              (try clear hb)
              (try clear hb2)
              (try clear hk)
              (try clear hi)
              refine hK.out _ _ ⟨v234, adz_v234, m11_, (by rw [ha.out]; exact putSel_upk 5 hb_ rfl rfl rfl), (bu HB.out), z_HO235, Q_HA_HO235, fun h0_ => absurd ((hoff 11 (by kernel_rfl)).symm.trans h0_) (by decide)⟩
             refine steps_cons ?_ ?_
             ·rintro b a w' ⟨v234, adz_v234, m11_, ha, Q_HB, Q_HO235, Q_HA_HO235, Q_X11_⟩ hb_ hon hoff
              refine ⟨_, rfl, fun K hK => ?_⟩
              have e22 : a.tmps[22]? = some (v234) := by rw [ha]; exact putSel_on (e := (1, 22, v234)) 0 rfl rfl (hon 1 (by kernel_rfl)) rfl
              have e31 : a.tmps[31]? = some (.int .i64 t238) := by rw [ha]; exact putSel_on (e := (10, 31, .int .i64 t238)) 5 rfl rfl (hon 10 (by kernel_rfl)) rfl
              replace ha := am ha
              have HB := am Q_HB
              have HO235 := am (Q_HO235 (hon 1 (by kernel_rfl)))
              have HA_HO235 := am (Q_HA_HO235 (hon 1 (by kernel_rfl)))
              obtain ⟨c_, hv_⟩ := HA_HO235.out
              rw [hv_] at e22
              refine value_ (w1 := w') (v := .pointer (some (adz_v234.add (t238).toNat))) (by rfl) rfl ?_ ?_
              ·go_simp
               (try simp only [i64_w])
               try rfl
              refine hK.out _ _ ⟨v234, adz_v234, (.pointer (some (adz_v234.add (t238).toNat))), (by rw [ha.out]; exact putSel_upk 6 hb_ rfl rfl rfl), Q_HB, Q_HO235, Q_HA_HO235, fun _ => rfl⟩
             refine steps_cons ?_ ?_
             ·rintro b a w' ⟨v234, adz_v234, m11_, ha, Q_HB, Q_HO235, Q_HA_HO235, Q_X11_⟩ hb_ hon hoff
              refine ⟨_, rfl, fun K hK => ?_⟩
              have e32 : a.tmps[32]? = some (m11_) := by rw [ha]; exact putSel_on (e := (11, 32, m11_)) 6 rfl rfl (hon 11 (by kernel_rfl)) rfl
              rw [Q_X11_ (hon 11 (by kernel_rfl))] at e32
              replace ha := am ha
              have HB := am Q_HB
              have HO235 := am (Q_HO235 (hon 1 (by kernel_rfl)))
              have HA_HO235 := am (Q_HA_HO235 (hon 1 (by kernel_rfl)))
              obtain ⟨c_, hv_⟩ := HA_HO235.out
              have hF_ := HO235.out
              rw [hv_] at hF_
              obtain ⟨ad_, ea_, hx_⟩ := Kd.at_string (Kd.R_reads' hF_).2.2 t238 (of_eq_true pi239) (of_eq_true qi239)
              cases ea_
              refine value_ (w1 := w') (v := .string (rdOf ByteArray.empty y233 t238)) (by rfl) rfl ?_ ?_
              ·go_simp
               (try simp only [i64_w])
               try rfl
              refine hK.out _ _ ⟨v234, adz_v234, m11_, (by rw [ha.out]; exact putSel_upk 7 hb_ rfl rfl rfl), Q_HB, Q_HO235, Q_HA_HO235, Q_X11_⟩
             refine steps_cons ?_ ?_
             ·rintro b a w' ⟨v234, adz_v234, m11_, ha, Q_HB, Q_HO235, Q_HA_HO235, Q_X11_⟩ hb_ hon hoff
              refine ⟨_, rfl, fun K hK => ?_⟩
              have e21 : a.tmps[21]? = some (.string (x5_1 ++ (⟨#[32]⟩ : ByteArray))) := by rw [ha]; exact (putSel_off rfl).trans rfl
              have e33 : a.tmps[33]? = some (.string (rdOf ByteArray.empty y233 t238)) := by rw [ha]; exact putSel_on (e := (12, 33, .string (rdOf ByteArray.empty y233 t238))) 7 rfl rfl (hon 12 (by kernel_rfl)) rfl
              replace ha := am ha
              have HB := am Q_HB
              have HO235 := am (Q_HO235 (hon 1 (by kernel_rfl)))
              have HA_HO235 := am (Q_HA_HO235 (hon 1 (by kernel_rfl)))
              refine value_ (w1 := w') (v := .string ((x5_1 ++ (⟨#[32]⟩ : ByteArray)) ++ (rdOf ByteArray.empty y233 t238))) (by rfl) rfl ?_ ?_
              ·go_simp
               (try simp only [i64_w])
               try rfl
               (try exact Nat.le_trans (Nat.le_of_eq (by rw [ByteArray.size_append]; rfl)) c14)
              refine hK.out _ _ ⟨v234, adz_v234, m11_, (by rw [ha.out]; exact putSel_upk 8 hb_ rfl rfl rfl), Q_HB, Q_HO235, Q_HA_HO235, Q_X11_⟩
             refine steps_cons ?_ ?_
             ·rintro b a w' ⟨v234, adz_v234, m11_, ha, Q_HB, Q_HO235, Q_HA_HO235, Q_X11_⟩ hb_ hon hoff
              refine ⟨_, rfl, fun K hK => ?_⟩
              have e34 : a.tmps[34]? = some (.string ((x5_1 ++ (⟨#[32]⟩ : ByteArray)) ++ (rdOf ByteArray.empty y233 t238))) := by rw [ha]; exact putSel_on (e := (13, 34, .string ((x5_1 ++ (⟨#[32]⟩ : ByteArray)) ++ (rdOf ByteArray.empty y233 t238)))) 8 rfl rfl (hon 13 (by kernel_rfl)) rfl
              replace ha := am ha
              have HB := am Q_HB
              have HO235 := am (Q_HO235 (hon 1 (by kernel_rfl)))
              have HA_HO235 := am (Q_HA_HO235 (hon 1 (by kernel_rfl)))
              refine value_ (w1 := w') (v := .string ((x5_1 ++ (⟨#[32]⟩ : ByteArray)) ++ (rdOf ByteArray.empty y233 t238))) (by rfl) rfl ?_ ?_
              ·go_simp
               (try simp only [i64_w])
               try rfl
               (try exact Nat.le_trans (Nat.le_of_eq (by rw [ByteArray.size_append]; rfl)) c14)
              refine hK.out _ _ ⟨v234, adz_v234, m11_, (by rw [ha.out]; exact putSel_upk 9 hb_ rfl rfl rfl), Q_HB, Q_HO235, Q_HA_HO235, Q_X11_⟩
             exact steps_nil
            rintro b a w20 hall ⟨v234, adz_v234, m11_, ha, Q_HB, Q_HO235, Q_HA_HO235, Q_X11_⟩
            clear HB
            have hb1_ := hall 1 (by kernel_rfl)
            have hb4_ := hall 4 (by kernel_rfl)
            have hb5_ := hall 5 (by kernel_rfl)
            have hb8_ := hall 8 (by kernel_rfl)
            have hb9_ := hall 9 (by kernel_rfl)
            have hb10_ := hall 10 (by kernel_rfl)
            have hb11_ := hall 11 (by kernel_rfl)
            have hb12_ := hall 12 (by kernel_rfl)
            have hb13_ := hall 13 (by kernel_rfl)
            have hb14_ := hall 14 (by kernel_rfl)
            subst ha
            obtain rfl := Q_X11_ hb11_
            simp only [putSel, hb1_, hb4_, hb5_, hb8_, hb9_, hb10_, hb11_, hb12_, hb13_, hb14_, if_true, Act.put, sA, sZ, sS]
            have HB := am Q_HB
            clear Q_HB
            have HO235 := am (Q_HO235 hb1_)
            clear Q_HO235
            have HA_HO235 := am (Q_HA_HO235 hb1_)
            clear Q_HA_HO235
            clear hall hb1_ hb4_ hb5_ hb8_ hb9_ hb10_ hb11_ hb12_ hb13_ hb14_
            obtain ⟨co21, eo21⟩ := HA_HO235.out
            clear HA_HO235
            subst eo21
            try go_wp2
            go_roundg k1
            case measure => have := HK1.out; omega
            case rel => exact ⟨((x5_1 ++ (⟨#[32]⟩ : ByteArray)) ++ (rdOf ByteArray.empty y233 t238)), (wrap64 (x6_1 + 1)), (by first | rfl | (simp; done) | (simp [*]; done)), (by first | rfl | (simp; done) | (simp [*]; done)), H', ⟨by have := HK1.out; omega⟩, ⟨bu HB.out⟩⟩
           ·rw [if_neg c14] at H
            exact absurd H (by simp)
          ·rw [if_neg c13] at H
           exact absurd H (by simp)
         ·rw [if_neg c12] at H
          exact absurd H (by simp)
        ·rw [if_neg c10] at H
         exact absurd H (by simp)
       ·rw [if_neg c9] at H
        exact absurd H (by simp)
      ·rw [if_neg c8] at H
       exact absurd H (by simp)
     ·rw [if_neg c7] at H
      have c7b0 : decide (0 < x6_1) = false := decide_eq_false c7
      clear c7
      obtain ⟨y240, hy240⟩ : ∃ y_ : List ByteArray, y_ = (([(⟨#[117, 116]⟩ : ByteArray), (⟨#[114, 101]⟩ : ByteArray), (⟨#[109, 105]⟩ : ByteArray), (⟨#[102, 97]⟩ : ByteArray), (⟨#[115, 111, 108]⟩ : ByteArray), (⟨#[108, 97]⟩ : ByteArray)] : List ByteArray)) := ⟨_, rfl⟩
      replace H : (if 0 ≤ x6_1 then (if x6_1 < (l1.length : Int) then ((spec_HexSyllable.f k1 (rd l1 x6_1) ((rd_T30 l0 x6_1).f0) ((rd_T30 l0 x6_1).f1)).bind fun t245 => (if 0 ≤ t245 then (if t245 < (y240.length : Int) then (if x5_1.size + (rdOf ByteArray.empty y240 t245).size ≤ 9223372036854775807 then (spec_SingText.l0 k1 l0 l1 (x5_1 ++ (rdOf ByteArray.empty y240 t245)) (wrap64 (x6_1 + 1))) else (none)) else (none)) else (none))) else (none)) else (none)) = some r := by first | (rw [hy240]; with_reducible exact H) | (have H2_ := (Option.bind_some _ _).symm.trans H; rw [hy240]; with_reducible exact H2_) | (have H2_ := (Option.bind_some _ _).symm.trans H; with_reducible exact H2_) | with_reducible exact H | (rw [hy240]; exact H) | exact H
      have Ny240 := am hy240
      clear hy240
      by_cases c22 : 0 ≤ x6_1
      ·rw [if_pos c22] at H
       have c22b0 : decide (0 ≤ x6_1) = true := decide_eq_true c22
       clear c22
       by_cases c23 : x6_1 < (l1.length : Int)
       ·rw [if_pos c23] at H
        have c23b0 : decide (x6_1 < (l1.length : Int)) = true := decide_eq_true c23
        clear c23
        replace H := Option.bind_eq_some_iff.mp H
        obtain ⟨t245, A240, H⟩ := H
        replace H : (if 0 ≤ t245 then (if t245 < (y240.length : Int) then (if x5_1.size + (rdOf ByteArray.empty y240 t245).size ≤ 9223372036854775807 then (spec_SingText.l0 k1 l0 l1 (x5_1 ++ (rdOf ByteArray.empty y240 t245)) (wrap64 (x6_1 + 1))) else (none)) else (none)) else (none)) = some r := H
        have A24 := am A240
        clear A240
        by_cases c25 : 0 ≤ t245
        ·rw [if_pos c25] at H
         have c25b0 : decide (0 ≤ t245) = true := decide_eq_true c25
         clear c25
         by_cases c26 : t245 < (y240.length : Int)
         ·rw [if_pos c26] at H
          have c26b0 : decide (t245 < (y240.length : Int)) = true := decide_eq_true c26
          clear c26
          by_cases c27 : x5_1.size + (rdOf ByteArray.empty y240 t245).size ≤ 9223372036854775807
          ·rw [if_pos c27] at H
           have c27b0 := eq_true c27
           have c27b1 : decide (x5_1.size + (rdOf ByteArray.empty y240 t245).size ≤ 9223372036854775807) = true := decide_eq_true c27
           try have c27b2 : (9223372036854775807 < x5_1.size + (rdOf ByteArray.empty y240 t245).size) = False := eq_false (Nat.not_lt.2 c27)
           have H' := am H
           clear H
           try go_wp2
           have pi246 : (0 ≤ (t245 : Int)) = True := eq_true (od)
           have qi246 : (t245 < (y240.length : Int)) = True := eq_true (od)
           have n0_ := am (below_drew1 HB.out)
           clear HB
           have HB := n0_
           clear n0_
           have p243 : 0 ≤ (x6_1 : Int) := od
           have q243 : x6_1 < (l1.length : Int) := od
           obtain ⟨ad243, e243, hx243_0⟩ := Kd.at_int HR1.out x6_1 p243 q243
           have hw243_0 := hx243_0
           cases e243
           replace hx243_0 := (HB.out.cell (World.block_lt_of_cell? w _ hx243_0)).trans hx243_0
           replace p243 := eq_true p243
           replace q243 := eq_true q243
           have p244 : 0 ≤ (x6_1 : Int) := od
           have q244 : x6_1 < (l0.length : Int) := od
           obtain ⟨ad244, e244, hx244_0, hx244_1⟩ := at_T30 HR0.out x6_1 p244 q244
           have hw244_1 := hx244_1
           have hw244_0 := hx244_0
           cases e244
           replace hx244_0 := (HB.out.cell (World.block_lt_of_cell? w _ hx244_0)).trans hx244_0
           replace hx244_1 := (HB.out.cell (World.block_lt_of_cell? w _ hx244_1)).trans hx244_1
           replace p244 := eq_true p244
           replace q244 := eq_true q244
           refine start_ (n := 15) (S := fun w' => True) (ds := []) #[F,F,F,F,F,F,F,F,F,F,F,F,F,F,F] (by kernel_rfl) rfl rfl trivial (fun hHeld => ?_); refine with_tabW spec_SingText.tab9 spec_SingText.bits9 (fun HT_ HW_ => ?_)
           generalize wr.drew = w28 at HB hx243_0 hx244_0 hx244_1 hHeld ⊢
           refine pz 0 (some 21) #[T,F,F,F,F,F,F,F,F,F,F,F,F,F,F] (any_of HT_.out (by kernel_rfl)) (h := ?_)
           refine pz 2 (some 23) #[T,F,T,F,F,F,F,F,F,F,F,F,F,F,F] (any_of HT_.out (by kernel_rfl)) (h := ?_)
           refine pz 3 (some 24) #[T,F,T,T,F,F,F,F,F,F,F,F,F,F,F] (any_of HT_.out (by kernel_rfl)) (h := ?_)
           refine pz 6 (some 27) #[T,F,T,T,F,F,T,F,F,F,F,F,F,F,F] (any_of HT_.out (by kernel_rfl)) (h := ?_)
           refine pz 7 (some 28) #[T,F,T,T,F,F,T,T,F,F,F,F,F,F,F] (any_of HT_.out (by kernel_rfl)) (h := ?_)
           refine inv_at [1, 4, 5, 8, 9, 10, 11, 12, 13, 14] (fun a0_ b a w' => ∃ (v241 : Value) (adz_v241 : Addr) (m11_ : Value), a = putSel a0_ b [(1, 22, v241), (4, 25, .pointer (some (ad243.add (x6_1).toNat))), (5, 26, .int .i64 (rd l1 x6_1)), (8, 29, .pointer (some (ad244.add ((x6_1).toNat * 2)))), (9, 30, .agg #[.int .i64 ((rd_T30 l0 x6_1).f0), .bool ((rd_T30 l0 x6_1).f1)]), (10, 31, .int .i64 t245), (11, 32, m11_), (12, 33, .string (rdOf ByteArray.empty y240 t245)), (13, 34, .string (x5_1 ++ (rdOf ByteArray.empty y240 t245))), (14, 5, .string (x5_1 ++ (rdOf ByteArray.empty y240 t245)))] ∧ (Below w.heap.size w w') ∧ (b 1 = true → Kd.R Kd.string 9 w' w.heap.size (fun _ => True) v241 y240) ∧ (b 1 = true → ∃ c_, (v241 : Value) = .slice (some adz_v241) y240.length c_) ∧ (b 11 = true → (m11_ : Value) = .pointer (some (adz_v241.add (t245).toNat)))) HT_.out HW_.out (by kernel_rfl) (by kernel_rfl) ?_ ?_ ?_
           ·exact ⟨.bool false, ⟨0, 0, none⟩, .bool false, by simp only [putSel, Bool.false_eq_true, if_false], HB.out, fun h_ => absurd h_ (by decide), fun h_ => absurd h_ (by decide), fun h_ => absurd h_ (by decide)⟩
           ·skip
            clear HB
            refine steps_cons ?_ ?_
            ·rintro b a w' ⟨v241, adz_v241, m11_, ha, Q_HB, Q_HO242, Q_HA_HO242, Q_X11_⟩ hb_ hon hoff
             refine ⟨_, rfl, fun K hK => ?_⟩
             replace ha := am ha
             have HB := am Q_HB
             refine Kd.R_lit_step Kd.string _ 9 ?hg (N := 22) ?hd (xs := ([(⟨#[117, 116]⟩ : ByteArray), (⟨#[114, 101]⟩ : ByteArray), (⟨#[109, 105]⟩ : ByteArray), (⟨#[102, 97]⟩ : ByteArray), (⟨#[115, 111, 108]⟩ : ByteArray), (⟨#[108, 97]⟩ : ByteArray)] : List ByteArray)) (inner := [.string (⟨#[117, 116]⟩ : ByteArray), .string (⟨#[114, 101]⟩ : ByteArray), .string (⟨#[109, 105]⟩ : ByteArray), .string (⟨#[102, 97]⟩ : ByteArray), .string (⟨#[115, 111, 108]⟩ : ByteArray), .string (⟨#[108, 97]⟩ : ByteArray)]) (ok := fun _ => True) (okp := fun _ => True) ?hr ?hp (fun _ hk => hk) trivial (Below.refl _ _) (Nat.le_refl _) (by simp) ?_; (case hd => rfl); (case hg => rfl); (case hr => first | (go_simp; done) | (go_simp; rfl)); (case hp => exact (Reps.one (show Kd.M Kd.string _ _ _ (⟨#[117, 116]⟩ : ByteArray) [.string (⟨#[117, 116]⟩ : ByteArray)] from rfl) (Reps.one (show Kd.M Kd.string _ _ _ (⟨#[114, 101]⟩ : ByteArray) [.string (⟨#[114, 101]⟩ : ByteArray)] from rfl) (Reps.one (show Kd.M Kd.string _ _ _ (⟨#[109, 105]⟩ : ByteArray) [.string (⟨#[109, 105]⟩ : ByteArray)] from rfl) (Reps.one (show Kd.M Kd.string _ _ _ (⟨#[102, 97]⟩ : ByteArray) [.string (⟨#[102, 97]⟩ : ByteArray)] from rfl) (Reps.one (show Kd.M Kd.string _ _ _ (⟨#[115, 111, 108]⟩ : ByteArray) [.string (⟨#[115, 111, 108]⟩ : ByteArray)] from rfl) (Reps.one (show Kd.M Kd.string _ _ _ (⟨#[108, 97]⟩ : ByteArray) [.string (⟨#[108, 97]⟩ : ByteArray)] from rfl) (Reps.none _ _))))))))
             intro v241 w29 ho30 hb hg_ hnew_
             clear hg_ hnew_
             (first | rw [← Ny240.out] at ho30 | (simp only [Int.reduceToNat] at ho30; rw [← Ny240.out] at ho30))
             have n0_ := am (Kd.R_lower ho30 (below_size (bu HB.out)))
             have n1_ := am (below_step (bu HB.out) hb)
             clear HB
             have HO242 := n0_
             have HB := n1_
             clear n0_ n1_
             clear hb ho30
             obtain ⟨Ao31, co31, eo31⟩ := Kd.R_slice HO242.out
             subst eo31
             obtain ⟨ado31, fo31, _⟩ := Kd.at_string (Kd.R_reads' HO242.out).2.2 0 (by decide) (by rw [Ny240.out]; simp)
             cases fo31
             refine hK.out _ _ ⟨.slice (some ado31) y240.length co31, ado31, m11_, (by rw [ha.out]; exact putSel_upk 0 hb_ rfl rfl rfl), (bu HB.out), fun _ => (ru HO242.out), fun _ => ⟨_, rfl⟩, fun h0_ => absurd ((hoff 11 (by kernel_rfl)).symm.trans h0_) (by decide)⟩
            refine steps_cons ?_ ?_
            ·rintro b a w' ⟨v241, adz_v241, m11_, ha, Q_HB, Q_HO242, Q_HA_HO242, Q_X11_⟩ hb_ hon hoff
             refine ⟨_, rfl, fun K hK => ?_⟩
             have e23 : a.tmps[23]? = some (.slice (some ad243) l1.length c1) := by rw [ha]; exact (putSel_off rfl).trans rfl
             have e24 : a.tmps[24]? = some (.int .i64 x6_1) := by rw [ha]; exact (putSel_off rfl).trans rfl
             replace ha := am ha
             have HB := am Q_HB
             have hs0_ : w'.cell? (ad243.add (x6_1).toNat) = some (.int .i64 (rd l1 x6_1)) := ((HB.out.cell (World.block_lt_of_cell? w _ hw243_0)).trans hw243_0)
             refine value_ (w1 := w') (v := .pointer (some (ad243.add (x6_1).toNat))) (by rfl) rfl ?_ ?_
             ·go_simp
              (try simp only [i64_w])
              try rfl
             refine hK.out _ _ ⟨v241, adz_v241, m11_, (by rw [ha.out]; exact putSel_upk 1 hb_ rfl rfl rfl), Q_HB, Q_HO242, Q_HA_HO242, fun h0_ => absurd ((hoff 11 (by kernel_rfl)).symm.trans h0_) (by decide)⟩
            refine steps_cons ?_ ?_
            ·rintro b a w' ⟨v241, adz_v241, m11_, ha, Q_HB, Q_HO242, Q_HA_HO242, Q_X11_⟩ hb_ hon hoff
             refine ⟨_, rfl, fun K hK => ?_⟩
             have e25 : a.tmps[25]? = some (.pointer (some (ad243.add (x6_1).toNat))) := by rw [ha]; exact putSel_on (e := (4, 25, .pointer (some (ad243.add (x6_1).toNat)))) 1 rfl rfl (hon 4 (by kernel_rfl)) rfl
             replace ha := am ha
             have HB := am Q_HB
             have hs0_ : w'.cell? (ad243.add (x6_1).toNat) = some (.int .i64 (rd l1 x6_1)) := ((HB.out.cell (World.block_lt_of_cell? w _ hw243_0)).trans hw243_0)
             refine value_ (w1 := w') (v := .int .i64 (rd l1 x6_1)) (by rfl) rfl ?_ ?_
             ·go_simp
              (try simp only [i64_w])
              try rfl
             refine hK.out _ _ ⟨v241, adz_v241, m11_, (by rw [ha.out]; exact putSel_upk 2 hb_ rfl rfl rfl), Q_HB, Q_HO242, Q_HA_HO242, fun h0_ => absurd ((hoff 11 (by kernel_rfl)).symm.trans h0_) (by decide)⟩
            refine steps_cons ?_ ?_
            ·rintro b a w' ⟨v241, adz_v241, m11_, ha, Q_HB, Q_HO242, Q_HA_HO242, Q_X11_⟩ hb_ hon hoff
             refine ⟨_, rfl, fun K hK => ?_⟩
             have e27 : a.tmps[27]? = some (.slice (some ad244) l0.length c0) := by rw [ha]; exact (putSel_off rfl).trans rfl
             have e28 : a.tmps[28]? = some (.int .i64 x6_1) := by rw [ha]; exact (putSel_off rfl).trans rfl
             replace ha := am ha
             have HB := am Q_HB
             have hs1_ : w'.cell? (ad244.add ((x6_1).toNat * 2)) = some (.int .i64 ((rd_T30 l0 x6_1).f0)) := ((HB.out.cell (World.block_lt_of_cell? w _ hw244_0)).trans hw244_0)
             have hs2_ : w'.cell? ⟨(ad244.add ((x6_1).toNat * 2)).block, (ad244.add ((x6_1).toNat * 2)).off + 1, none⟩ = some (.bool ((rd_T30 l0 x6_1).f1)) := ((HB.out.cell (World.block_lt_of_cell? w _ hw244_1)).trans hw244_1)
             refine value_ (w1 := w') (v := .pointer (some (ad244.add ((x6_1).toNat * 2)))) (by rfl) rfl ?_ ?_
             ·go_simp
              (try simp only [i64_w])
              try rfl
             refine hK.out _ _ ⟨v241, adz_v241, m11_, (by rw [ha.out]; exact putSel_upk 3 hb_ rfl rfl rfl), Q_HB, Q_HO242, Q_HA_HO242, fun h0_ => absurd ((hoff 11 (by kernel_rfl)).symm.trans h0_) (by decide)⟩
            refine steps_cons ?_ ?_
            ·rintro b a w' ⟨v241, adz_v241, m11_, ha, Q_HB, Q_HO242, Q_HA_HO242, Q_X11_⟩ hb_ hon hoff
             refine ⟨_, rfl, fun K hK => ?_⟩
             have e29 : a.tmps[29]? = some (.pointer (some (ad244.add ((x6_1).toNat * 2)))) := by rw [ha]; exact putSel_on (e := (8, 29, .pointer (some (ad244.add ((x6_1).toNat * 2))))) 3 rfl rfl (hon 8 (by kernel_rfl)) rfl
             replace ha := am ha
             have HB := am Q_HB
             have hs1_ : w'.cell? (ad244.add ((x6_1).toNat * 2)) = some (.int .i64 ((rd_T30 l0 x6_1).f0)) := ((HB.out.cell (World.block_lt_of_cell? w _ hw244_0)).trans hw244_0)
             have hs2_ : w'.cell? ⟨(ad244.add ((x6_1).toNat * 2)).block, (ad244.add ((x6_1).toNat * 2)).off + 1, none⟩ = some (.bool ((rd_T30 l0 x6_1).f1)) := ((HB.out.cell (World.block_lt_of_cell? w _ hw244_1)).trans hw244_1)
             refine value_ (w1 := w') (v := .agg #[.int .i64 ((rd_T30 l0 x6_1).f0), .bool ((rd_T30 l0 x6_1).f1)]) (by rfl) rfl ?_ ?_
             ·go_simp
              (try simp only [i64_w])
              try rfl
             refine hK.out _ _ ⟨v241, adz_v241, m11_, (by rw [ha.out]; exact putSel_upk 4 hb_ rfl rfl rfl), Q_HB, Q_HO242, Q_HA_HO242, fun h0_ => absurd ((hoff 11 (by kernel_rfl)).symm.trans h0_) (by decide)⟩
            refine steps_cons ?_ ?_
            ·rintro b a w' ⟨v241, adz_v241, m11_, ha, Q_HB, Q_HO242, Q_HA_HO242, Q_X11_⟩ hb_ hon hoff
             refine ⟨_, rfl, fun K hK => ?_⟩
             have e26 : a.tmps[26]? = some (.int .i64 (rd l1 x6_1)) := by rw [ha]; exact putSel_on (e := (5, 26, .int .i64 (rd l1 x6_1))) 2 rfl rfl (hon 5 (by kernel_rfl)) rfl
             have e30 : a.tmps[30]? = some (.agg #[.int .i64 ((rd_T30 l0 x6_1).f0), .bool ((rd_T30 l0 x6_1).f1)]) := by rw [ha]; exact putSel_on (e := (9, 30, .agg #[.int .i64 ((rd_T30 l0 x6_1).f0), .bool ((rd_T30 l0 x6_1).f1)])) 4 rfl rfl (hon 9 (by kernel_rfl)) rfl
             replace ha := am ha
             have HB := am Q_HB
             refine goes_ Tryd.func102 (by kernel_rfl) rfl #[.int .i64 (rd l1 x6_1), .agg #[.int .i64 ((rd_T30 l0 x6_1).f0), .bool ((rd_T30 l0 x6_1).f1)]] (by rfl) rfl rfl (by first | (simp only [List.map_toArray, List.map_cons, List.map_nil, Act.eval, Array.getD_eq_getD_getElem?, Option.getD_some, e26, e30]; done) | (simp only [List.map_toArray, List.map_cons, List.map_nil, Act.eval, Array.getD_eq_getD_getElem?, Option.getD_some, e26, e30]; rfl)) ?_
             with_reducible refine (spec_HexSyllable.calls k1 (rd l1 x6_1) ((rd_T30 l0 x6_1).f0) ((rd_T30 l0 x6_1).f1) t245 _ A24.out).mono ?_
             rintro e w29 ⟨rfl, hb⟩
             refine ⟨_, rfl, ?_⟩
             have n0_ := am (below_step (bu HB.out) hb)
             have z_HO242 := fun (h0_ : b 1 = true) => (show Kd.R Kd.string 9 w29 w.heap.size (fun _ => True) v241 y240 from by first | exact (Kd.R_below (by (with_reducible repeat (first | apply Kd.R_alloc | apply Kd.R_drewN | apply Kd.R_drew)); exact (Q_HO242 h0_)) hb) | exact Kd.R_mono (Kd.R_below (by (with_reducible repeat (first | apply Kd.R_alloc | apply Kd.R_drewN | apply Kd.R_drew)); exact (Q_HO242 h0_)) hb) (fun _ h_ => by first | trivial | exact h_ | exact h_.1))
             clear HB
             have HB := n0_
             clear n0_
             (try clear hb)
             (try clear hb2)
             (try clear hk)
             (try clear hi)
             refine hK.out _ _ ⟨v241, adz_v241, m11_, (by rw [ha.out]; exact putSel_upk 5 hb_ rfl rfl rfl), (bu HB.out), z_HO242, Q_HA_HO242, fun h0_ => absurd ((hoff 11 (by kernel_rfl)).symm.trans h0_) (by decide)⟩
            refine steps_cons ?_ ?_
            ·rintro b a w' ⟨v241, adz_v241, m11_, ha, Q_HB, Q_HO242, Q_HA_HO242, Q_X11_⟩ hb_ hon hoff
             refine ⟨_, rfl, fun K hK => ?_⟩
             have e22 : a.tmps[22]? = some (v241) := by rw [ha]; exact putSel_on (e := (1, 22, v241)) 0 rfl rfl (hon 1 (by kernel_rfl)) rfl
             have e31 : a.tmps[31]? = some (.int .i64 t245) := by rw [ha]; exact putSel_on (e := (10, 31, .int .i64 t245)) 5 rfl rfl (hon 10 (by kernel_rfl)) rfl
             replace ha := am ha
             have HB := am Q_HB
             have HO242 := am (Q_HO242 (hon 1 (by kernel_rfl)))
             have HA_HO242 := am (Q_HA_HO242 (hon 1 (by kernel_rfl)))
             obtain ⟨c_, hv_⟩ := HA_HO242.out
             rw [hv_] at e22
             refine value_ (w1 := w') (v := .pointer (some (adz_v241.add (t245).toNat))) (by rfl) rfl ?_ ?_
             ·go_simp
              (try simp only [i64_w])
              try rfl
             refine hK.out _ _ ⟨v241, adz_v241, (.pointer (some (adz_v241.add (t245).toNat))), (by rw [ha.out]; exact putSel_upk 6 hb_ rfl rfl rfl), Q_HB, Q_HO242, Q_HA_HO242, fun _ => rfl⟩
            refine steps_cons ?_ ?_
            ·rintro b a w' ⟨v241, adz_v241, m11_, ha, Q_HB, Q_HO242, Q_HA_HO242, Q_X11_⟩ hb_ hon hoff
             refine ⟨_, rfl, fun K hK => ?_⟩
             have e32 : a.tmps[32]? = some (m11_) := by rw [ha]; exact putSel_on (e := (11, 32, m11_)) 6 rfl rfl (hon 11 (by kernel_rfl)) rfl
             rw [Q_X11_ (hon 11 (by kernel_rfl))] at e32
             replace ha := am ha
             have HB := am Q_HB
             have HO242 := am (Q_HO242 (hon 1 (by kernel_rfl)))
             have HA_HO242 := am (Q_HA_HO242 (hon 1 (by kernel_rfl)))
             obtain ⟨c_, hv_⟩ := HA_HO242.out
             have hF_ := HO242.out
             rw [hv_] at hF_
             obtain ⟨ad_, ea_, hx_⟩ := Kd.at_string (Kd.R_reads' hF_).2.2 t245 (of_eq_true pi246) (of_eq_true qi246)
             cases ea_
             refine value_ (w1 := w') (v := .string (rdOf ByteArray.empty y240 t245)) (by rfl) rfl ?_ ?_
             ·go_simp
              (try simp only [i64_w])
              try rfl
             refine hK.out _ _ ⟨v241, adz_v241, m11_, (by rw [ha.out]; exact putSel_upk 7 hb_ rfl rfl rfl), Q_HB, Q_HO242, Q_HA_HO242, Q_X11_⟩
            refine steps_cons ?_ ?_
            ·rintro b a w' ⟨v241, adz_v241, m11_, ha, Q_HB, Q_HO242, Q_HA_HO242, Q_X11_⟩ hb_ hon hoff
             refine ⟨_, rfl, fun K hK => ?_⟩
             have e21 : a.tmps[21]? = some (.string x5_1) := by rw [ha]; exact (putSel_off rfl).trans rfl
             have e33 : a.tmps[33]? = some (.string (rdOf ByteArray.empty y240 t245)) := by rw [ha]; exact putSel_on (e := (12, 33, .string (rdOf ByteArray.empty y240 t245))) 7 rfl rfl (hon 12 (by kernel_rfl)) rfl
             replace ha := am ha
             have HB := am Q_HB
             have HO242 := am (Q_HO242 (hon 1 (by kernel_rfl)))
             have HA_HO242 := am (Q_HA_HO242 (hon 1 (by kernel_rfl)))
             refine value_ (w1 := w') (v := .string (x5_1 ++ (rdOf ByteArray.empty y240 t245))) (by rfl) rfl ?_ ?_
             ·go_simp
              (try simp only [i64_w])
              try rfl
             refine hK.out _ _ ⟨v241, adz_v241, m11_, (by rw [ha.out]; exact putSel_upk 8 hb_ rfl rfl rfl), Q_HB, Q_HO242, Q_HA_HO242, Q_X11_⟩
            refine steps_cons ?_ ?_
            ·rintro b a w' ⟨v241, adz_v241, m11_, ha, Q_HB, Q_HO242, Q_HA_HO242, Q_X11_⟩ hb_ hon hoff
             refine ⟨_, rfl, fun K hK => ?_⟩
             have e34 : a.tmps[34]? = some (.string (x5_1 ++ (rdOf ByteArray.empty y240 t245))) := by rw [ha]; exact putSel_on (e := (13, 34, .string (x5_1 ++ (rdOf ByteArray.empty y240 t245)))) 8 rfl rfl (hon 13 (by kernel_rfl)) rfl
             replace ha := am ha
             have HB := am Q_HB
             have HO242 := am (Q_HO242 (hon 1 (by kernel_rfl)))
             have HA_HO242 := am (Q_HA_HO242 (hon 1 (by kernel_rfl)))
             refine value_ (w1 := w') (v := .string (x5_1 ++ (rdOf ByteArray.empty y240 t245))) (by rfl) rfl ?_ ?_
             ·go_simp
              (try simp only [i64_w])
              try rfl
             refine hK.out _ _ ⟨v241, adz_v241, m11_, (by rw [ha.out]; exact putSel_upk 9 hb_ rfl rfl rfl), Q_HB, Q_HO242, Q_HA_HO242, Q_X11_⟩
            exact steps_nil
           rintro b a w33 hall ⟨v241, adz_v241, m11_, ha, Q_HB, Q_HO242, Q_HA_HO242, Q_X11_⟩
           clear HB
           have hb1_ := hall 1 (by kernel_rfl)
           have hb4_ := hall 4 (by kernel_rfl)
           have hb5_ := hall 5 (by kernel_rfl)
           have hb8_ := hall 8 (by kernel_rfl)
           have hb9_ := hall 9 (by kernel_rfl)
           have hb10_ := hall 10 (by kernel_rfl)
           have hb11_ := hall 11 (by kernel_rfl)
           have hb12_ := hall 12 (by kernel_rfl)
           have hb13_ := hall 13 (by kernel_rfl)
           have hb14_ := hall 14 (by kernel_rfl)
           subst ha
           obtain rfl := Q_X11_ hb11_
           simp only [putSel, hb1_, hb4_, hb5_, hb8_, hb9_, hb10_, hb11_, hb12_, hb13_, hb14_, if_true, Act.put, sA, sZ, sS]
           have HB := am Q_HB
           clear Q_HB
           have HO242 := am (Q_HO242 hb1_)
           clear Q_HO242
           have HA_HO242 := am (Q_HA_HO242 hb1_)
           clear Q_HA_HO242
           clear hall hb1_ hb4_ hb5_ hb8_ hb9_ hb10_ hb11_ hb12_ hb13_ hb14_
           obtain ⟨co34, eo34⟩ := HA_HO242.out
           clear HA_HO242
           subst eo34
           try go_wp2
           go_roundg k1
           case measure => have := HK1.out; omega
           case rel => exact ⟨(x5_1 ++ (rdOf ByteArray.empty y240 t245)), (wrap64 (x6_1 + 1)), (by first | rfl | (simp; done) | (simp [*]; done)), (by first | rfl | (simp; done) | (simp [*]; done)), H', ⟨by have := HK1.out; omega⟩, ⟨bu HB.out⟩⟩
          ·rw [if_neg c27] at H
           exact absurd H (by simp)
         ·rw [if_neg c26] at H
          exact absurd H (by simp)
        ·rw [if_neg c25] at H
         exact absurd H (by simp)
       ·rw [if_neg c23] at H
        exact absurd H (by simp)
      ·rw [if_neg c22] at H
       exact absurd H (by simp)
    ·rw [if_neg c6] at H
     have c6b0 : decide (x6_1 < (l0.length : Int)) = false := decide_eq_false c6
     clear c6
     obtain rfl := Option.some.inj H
     go_wp2
     go_ret
     exact ⟨by first | rfl | (simp [errW_none, errW_some] <;> rfl) | (simp [*, errW_none, errW_some] <;> rfl), bu HB.out⟩
 ·replace c4 := Bool.eq_false_iff.mpr c4
  subst c4
  have H1 : (some (⟨#[]⟩ : ByteArray)) = some r := by rw [if_neg (show ¬ (false = true) by decide)] at H; exact H
  clear H
  have H := H1
  clear H1
  obtain rfl := Option.some.inj H
  go_enter Tryd.func44, Tryd.ntmps44
  go_wp2_with (first | ((with_reducible refine gate_callee (f := 101) rfl ?_); refine goesL_ (some 9) rfl rfl Tryd.func101 (by kernel_rfl) rfl #[.slice A0 l0.length c0, .slice A1 l1.length c1] rfl (by (try simp only [List.map_toArray, List.map_cons, List.map_nil]); first | done | rfl | (simp only [List.length_drop, List.length_take]; rfl)) ?_; (with_reducible refine (spec_SingOk.calls k _ _ l0 _ _ l1 false _ ?side1 ?side2 ?side3 ?side4 A3.out).mono ?_); (case side1 => exact cu HR0.out); (case side2 => exact HC0.out); (case side3 => exact cu HR1.out); (case side4 => exact HC1.out); rintro e w35 ⟨rfl, hb⟩; refine ⟨_, rfl, ?_⟩; have n0_ := am (below_step (bu HB.out) hb); clear HB; have HB := n0_; clear n0_; (try clear hb); (try clear hb2); (try clear hk); (try clear hi)))
  go_ret
  exact ⟨by first | rfl | (simp [errW_none, errW_some] <;> rfl) | (simp [*, errW_none, errW_some] <;> rfl), bu HB.out⟩

/-! ### laws_names: function 46 -/
def laws_names.l0 : Nat → ByteArray → Int → Int → Option (Int)
 | 0, _, _, _ => none
 | k + 1, x0, x3, x4 => if x4 < (x0.size : Int) then (if 0 ≤ x4 then (if (bt x0 x4) = 32 then (laws_names.l0 k x0 (wrap64 (x3 + 1)) (wrap64 (x4 + 1))) else (laws_names.l0 k x0 x3 (wrap64 (x4 + 1)))) else (none)) else (some x3)
def laws_names.f (k : Nat) (a0 : ByteArray) : Option (Int) := if a0.toList = ([] : List UInt8) then (some 0) else (laws_names.l0 k a0 1 0)
set_option maxHeartbeats 8000000 in
set_option maxRecDepth 100000 in
theorem laws_names.calls (k : Nat) (a0 : ByteArray) (r : Int) (w : World) (h : laws_names.f k a0 = some r) :
  Calls Tryd.prog 46 #[.string a0] w fun e w' => e = .returned (.int .i64 r) ∧ Drawn0 w w' := by
 have H : (if a0.toList = ([] : List UInt8) then (some 0) else (laws_names.l0 k a0 1 0)) = some r := h
 clear h
 by_cases c2 : a0.toList = ([] : List UInt8)
 ·rw [if_pos c2] at H
  have c2b0 : (a0.toList == ([] : List UInt8)) = true := beq_iff_eq.mpr c2
  have c2b1 : (a0.toList != ([] : List UInt8)) = false := bne_eq_false_iff_eq.mpr c2
  clear c2
  obtain rfl := Option.some.inj H
  go_enter Tryd.func46, Tryd.ntmps46
  go_wp2
  go_ret
  exact ⟨by first | rfl | (simp; done) | (simp [*]; done), by repeat (first | exact Drawn0.refl _ | apply Drawn0.step)⟩
 ·rw [if_neg c2] at H
  have c2b0 : (a0.toList == ([] : List UInt8)) = false := beq_eq_false_iff_ne.mpr c2
  have c2b1 : (a0.toList != ([] : List UInt8)) = true := bne_iff_ne.mpr c2
  have H' := am H
  clear H
  go_enter Tryd.func46, Tryd.ntmps46
  go_wp2
  go_loopg [3, 4] k (fun kq v3 v4 w' => ∃ (x3_1 : Int) (x4_1 : Int), v3 = .int .i64 x3_1 ∧ v4 = .int .i64 x4_1 ∧ Aside0 (laws_names.l0 kq a0 x3_1 x4_1 = some r) ∧ Aside0 (kq ≤ k) ∧ Drawn0 w w')
  case atStart => exact ⟨(1), (0), (by first | rfl | (simp; done) | (simp [*]; done)), (by first | rfl | (simp; done) | (simp [*]; done)), H', ⟨Nat.le_refl _⟩, by repeat (first | exact Drawn0.refl _ | apply Drawn0.step)⟩
  case round =>
   clear H'
   try clear c2
   try clear c2b0
   try clear c2b1
   try clear p2
   obtain ⟨x3_1, x4_1, rfl, rfl, HA, HK1, ⟨m1, rfl⟩⟩ := hrel
   cases gk with
   | zero => exact absurd HA.out (by simp [laws_names.l0])
   | succ k1 =>
    have H := HA.out
    clear HA
    simp only [laws_names.l0] at H
    by_cases c3 : x4_1 < (a0.size : Int)
    ·rw [if_pos c3] at H
     have c3b0 : decide (x4_1 < (a0.size : Int)) = true := decide_eq_true c3
     clear c3
     by_cases c4 : 0 ≤ x4_1
     ·rw [if_pos c4] at H
      have c4b0 : decide (0 ≤ x4_1) = true := decide_eq_true c4
      clear c4
      by_cases c6 : (bt a0 x4_1) = 32
      ·rw [if_pos c6] at H
       have c6b0 : ((bt a0 x4_1) == 32) = true := beq_iff_eq.mpr c6
       have c6b1 : ((bt a0 x4_1) != 32) = false := bne_eq_false_iff_eq.mpr c6
       clear c6
       have H' := am H
       clear H
       have p5 : 0 ≤ (x4_1 : Int) := od
       have q5 : x4_1 < (a0.size : Int) := od
       have hx5 := bt_at a0 x4_1
       replace p5 := eq_true p5
       replace q5 := eq_true q5
       go_wp2
       go_roundg k1
       case measure => have := HK1.out; omega
       case rel => exact ⟨(wrap64 (x3_1 + 1)), (wrap64 (x4_1 + 1)), (by first | rfl | (simp; done) | (simp [*]; done)), (by first | rfl | (simp; done) | (simp [*]; done)), H', ⟨by have := HK1.out; omega⟩, by repeat (first | exact Drawn0.refl _ | apply Drawn0.step)⟩
      ·rw [if_neg c6] at H
       have c6b0 : ((bt a0 x4_1) == 32) = false := beq_eq_false_iff_ne.mpr c6
       have c6b1 : ((bt a0 x4_1) != 32) = true := bne_iff_ne.mpr c6
       have H' := am H
       clear H
       have p5 : 0 ≤ (x4_1 : Int) := od
       have q5 : x4_1 < (a0.size : Int) := od
       have hx5 := bt_at a0 x4_1
       replace p5 := eq_true p5
       replace q5 := eq_true q5
       go_wp2
       go_roundg k1
       case measure => have := HK1.out; omega
       case rel => exact ⟨(x3_1), (wrap64 (x4_1 + 1)), (by first | rfl | (simp; done) | (simp [*]; done)), (by first | rfl | (simp; done) | (simp [*]; done)), H', ⟨by have := HK1.out; omega⟩, by repeat (first | exact Drawn0.refl _ | apply Drawn0.step)⟩
     ·rw [if_neg c4] at H
      exact absurd H (by simp)
    ·rw [if_neg c3] at H
     have c3b0 : decide (x4_1 < (a0.size : Int)) = false := decide_eq_false c3
     clear c3
     obtain rfl := Option.some.inj H
     go_wp2
     go_ret
     exact ⟨by first | rfl | (simp; done) | (simp [*]; done), by repeat (first | exact Drawn0.refl _ | apply Drawn0.step)⟩

/-! ### laws_FnSing: function 9 -/
def laws_FnSing.j0 : Nat → List (S30) → List Int → ByteArray → ByteArray → Bool → Option (Bool)
 | 0, _, _, _, _, _ => none
 | k + 1, x3, x4, x5, x6, x30 => if x30 = true then (some (x5.toList == x6.toList)) else ((impl_SingBest.f k x3).bind fun bt255 => ((impl_SingMutations.f k x3 x4).bind fun t259 => (if bt255.2 = true then ((impl_SingOk.f k x3 x4).bind fun t260 => (if t260 = true then ((laws_names.f k x5).bind fun t261 => (if t261 = (x3.length : Int) then ((impl_SingMutations.f k x3 bt255.1).bind fun t262 => (if t259 ≥ t262 then (some (decide (t259 < (x3.length : Int)))) else (some false))) else (some false))) else (some false))) else (some false))))
def laws_FnSing.f (k : Nat) (l0 : List Int) : Option (Bool) := if (l0.length : Int) > 1048576 then (some true) else ((spec_DrawSingText.f k l0).bind fun bt247 => ((impl_SingText.f k bt247.1 bt247.2).bind fun t253 => ((spec_SingText.f k bt247.1 bt247.2).bind fun t254 => (if t253.toList = t254.toList then (laws_FnSing.j0 k bt247.1 bt247.2 t253 t254 (t253.toList == ([] : List UInt8))) else (laws_FnSing.j0 k bt247.1 bt247.2 t253 t254 true)))))
set_option maxHeartbeats 8000000 in
set_option maxRecDepth 100000 in
theorem laws_FnSing.calls (k : Nat) (A0 : Option Addr) (c0 : Nat) (l0 : List Int) (r : Bool) (w : World) (hr0 : Kd.C (Kd.int .u8) w A0 l0.length l0) (hc0 : l0.length ≤ c0) (hTL : TabL w) (hTS : TabS w) (h : laws_FnSing.f k l0 = some r) :
  Calls Tryd.prog 9 #[.slice A0 l0.length c0] w fun e w' => e = .returned (.bool r) ∧ Below w.heap.size w w' := by
 have HTL := am hTL
 clear hTL
 have HTS := am hTS
 clear hTS
 have HR0 := am hr0
 have HC0 := am hc0
 clear hr0 hc0
 have HB := am (Below.refl w.heap.size w)
 have H : (if (l0.length : Int) > 1048576 then (some true) else ((spec_DrawSingText.f k l0).bind fun bt247 => ((impl_SingText.f k bt247.1 bt247.2).bind fun t253 => ((spec_SingText.f k bt247.1 bt247.2).bind fun t254 => (if t253.toList = t254.toList then (laws_FnSing.j0 k bt247.1 bt247.2 t253 t254 (t253.toList == ([] : List UInt8))) else (laws_FnSing.j0 k bt247.1 bt247.2 t253 t254 true)))))) = some r := h
 clear h
 by_cases c2 : (l0.length : Int) > 1048576
 ·rw [if_pos c2] at H
  have c2b0 : decide (1048576 < (l0.length : Int)) = true := decide_eq_true c2
  have c2b1 : decide (1048576 < l0.length) = true := decide_eq_true (by omega)
  clear c2
  obtain rfl := Option.some.inj H
  go_enter Tryd.func9, Tryd.ntmps9
  go_wp2
  go_ret
  exact ⟨by first | rfl | (simp [errW_none, errW_some] <;> rfl) | (simp [*, errW_none, errW_some] <;> rfl), bu HB.out⟩
 ·rw [if_neg c2] at H
  have c2b0 : decide (1048576 < (l0.length : Int)) = false := decide_eq_false c2
  have c2b1 : decide (1048576 < l0.length) = false := decide_eq_false (by omega)
  clear c2
  replace H := Option.bind_eq_some_iff.mp H
  obtain ⟨⟨t247, t248⟩, A30, H⟩ := H
  replace H : ((impl_SingText.f k t247 t248).bind fun t253 => ((spec_SingText.f k t247 t248).bind fun t254 => (if t253.toList = t254.toList then (laws_FnSing.j0 k t247 t248 t253 t254 (t253.toList == ([] : List UInt8))) else (laws_FnSing.j0 k t247 t248 t253 t254 true)))) = some r := H
  have A3 := am A30
  clear A30
  replace H := Option.bind_eq_some_iff.mp H
  obtain ⟨t253, A40, H⟩ := H
  replace H : ((spec_SingText.f k t247 t248).bind fun t254 => (if t253.toList = t254.toList then (laws_FnSing.j0 k t247 t248 t253 t254 (t253.toList == ([] : List UInt8))) else (laws_FnSing.j0 k t247 t248 t253 t254 true))) = some r := H
  have A4 := am A40
  clear A40
  replace H := Option.bind_eq_some_iff.mp H
  obtain ⟨t254, A50, H⟩ := H
  replace H : (if t253.toList = t254.toList then (laws_FnSing.j0 k t247 t248 t253 t254 (t253.toList == ([] : List UInt8))) else (laws_FnSing.j0 k t247 t248 t253 t254 true)) = some r := H
  have A5 := am A50
  clear A50
  have HC6 := am H
  clear H
  go_enter Tryd.func9, Tryd.ntmps9
  go_upto_region 6 with (first | ((with_reducible refine gate_callee (f := 42) rfl ?_); refine goesL_ (some 15) rfl rfl Tryd.func42 (by kernel_rfl) rfl #[.slice A0 l0.length c0] rfl (by (try simp only [List.map_toArray, List.map_cons, List.map_nil]); first | done | rfl | (simp only [List.length_drop, List.length_take]; rfl)) ?_; (with_reducible refine (spec_DrawSingText.calls k _ _ l0 t247 t248 _ ?side1 ?side2 A3.out).mono ?_); (case side1 => exact cu HR0.out); (case side2 => exact HC0.out); rintro e w7 ⟨v249, v251, rfl, ho0, ho1, hb⟩; refine ⟨_, rfl, ?_⟩; have n0_ := am (Kd.R_lower ho0 (below_size (bu HB.out))); have n1_ := am (Kd.Q_lower ho1 (below_size (bu HB.out))); have n2_ := am (below_step (bu HB.out) hb); clear HB; have HO250 := n0_; have HO252 := n1_; have HB := n2_; clear n0_ n1_ n2_; (try clear hb); (try clear hb2); (try clear hk); (try clear hi); (try clear ho0); (try clear ho1); obtain ⟨Ao8, co8, eo8⟩ := Kd.R_slice HO250.out; subst eo8; obtain ⟨Ao9, co9, eo9, _⟩ := Kd.Q_slice HO252.out; subst eo9) | ((with_reducible refine gate_callee (f := 43) rfl ?_); refine goesL_ (some 20) rfl rfl Tryd.func43 (by kernel_rfl) rfl #[.slice Ao8 t247.length co8, .slice Ao9 t248.length co9] rfl (by (try simp only [List.map_toArray, List.map_cons, List.map_nil]); first | done | rfl | (simp only [List.length_drop, List.length_take]; rfl)) ?_; (with_reducible refine (impl_SingText.calls k _ _ t247 _ _ t248 t253 _ ?side1 ?side2 ?side3 ?side4 ?side5 ?side6 A4.out).mono ?_); (case side1 => exact cu (Kd.R_reads' HO250.out).2.2); (case side2 => exact (Kd.R_reads' HO250.out).2.1); (case side3 => repeat (first | exact (Kd.Q_reads' HO252.out).2.2 | (with_reducible refine Kd.C_alloc ?_ _) | (with_reducible refine Kd.C_drewN ?_ _) | (with_reducible refine Kd.C_drew ?_))); (case side4 => exact (Kd.Q_reads' HO252.out).2.1); (case side5 => first | exact HTL.out | exact TabAt.below HTL.out (bu HB.out)); (case side6 => first | exact HTS.out | exact TabAt.below HTS.out (bu HB.out)); rintro e w10 ⟨rfl, hb⟩; refine ⟨_, rfl, ?_⟩; have n0_ := am (Kd.R_below (ru HO250.out) hb); have n1_ := am (Kd.Q_below (by (with_reducible repeat (first | apply Kd.Q_alloc | apply Kd.Q_drewN | apply Kd.Q_drew)); exact HO252.out) hb); have n2_ := am (below_step (bu HB.out) hb); clear HO250; clear HO252; clear HB; have HO250 := n0_; have HO252 := n1_; have HB := n2_; clear n0_ n1_ n2_; (try clear hb); (try clear hb2); (try clear hk); (try clear hi)) | ((with_reducible refine gate_callee (f := 44) rfl ?_); refine goesL_ (some 23) rfl rfl Tryd.func44 (by kernel_rfl) rfl #[.slice Ao8 t247.length co8, .slice Ao9 t248.length co9] rfl (by (try simp only [List.map_toArray, List.map_cons, List.map_nil]); first | done | rfl | (simp only [List.length_drop, List.length_take]; rfl)) ?_; (with_reducible refine (spec_SingText.calls k _ _ t247 _ _ t248 t254 _ ?side1 ?side2 ?side3 ?side4 A5.out).mono ?_); (case side1 => exact cu (Kd.R_reads' HO250.out).2.2); (case side2 => exact (Kd.R_reads' HO250.out).2.1); (case side3 => repeat (first | exact (Kd.Q_reads' HO252.out).2.2 | (with_reducible refine Kd.C_alloc ?_ _) | (with_reducible refine Kd.C_drewN ?_ _) | (with_reducible refine Kd.C_drew ?_))); (case side4 => exact (Kd.Q_reads' HO252.out).2.1); rintro e w11 ⟨rfl, hb⟩; refine ⟨_, rfl, ?_⟩; have n0_ := am (Kd.R_below (ru HO250.out) hb); have n1_ := am (Kd.Q_below (by (with_reducible repeat (first | apply Kd.Q_alloc | apply Kd.Q_drewN | apply Kd.Q_drew)); exact HO252.out) hb); have n2_ := am (below_step (bu HB.out) hb); clear HO250; clear HO252; clear HB; have HO250 := n0_; have HO252 := n1_; have HB := n2_; clear n0_ n1_ n2_; (try clear hb); (try clear hb2); (try clear hk); (try clear hi)))
  (try simp only [Act.put, sA, sZ, sS])
  go_cut [30] (fun v30 wc => ∃ (kq : Nat) (x30_5 : Bool), v30 = .bool x30_5 ∧ Aside0 (laws_FnSing.j0 kq t247 t248 t253 t254 x30_5 = some r) ∧ Aside0 (kq ≤ k) ∧ Aside0 (Kd.R k30 30 wc w.heap.size (fun _ => True) (.slice Ao8 t247.length co8) t247) ∧ Aside0 (Kd.Q (Kd.int .i64) 3 wc w.heap.size (fun _ => True) (.slice Ao9 t248.length co9) t248) ∧ Aside0 (Below w.heap.size w wc))
  case first =>
   have H := HC6.out
   clear HC6
   by_cases c12 : t253.toList = t254.toList
   ·rw [if_pos c12] at H
    have c12b0 : (t253.toList == t254.toList) = true := beq_iff_eq.mpr c12
    have c12b1 : (t253.toList != t254.toList) = false := bne_eq_false_iff_eq.mpr c12
    clear c12
    (first | rw [c12b0] | (simp only [i64_w, i32_w]; rw [c12b0]) | skip)
    have H' := am H
    clear H
    go_wp2
    go_meet
    case rel => exact ⟨_, ((t253.toList == ([] : List UInt8))), (by first | rfl | (simp; done) | (simp [*]; done)), H', ⟨by first | omega | exact Nat.le_refl _⟩, ⟨ru HO250.out⟩, ⟨by (with_reducible repeat (first | apply Kd.Q_alloc | apply Kd.Q_drewN | apply Kd.Q_drew)); exact HO252.out⟩, ⟨bu HB.out⟩⟩
   ·rw [if_neg c12] at H
    have c12b0 : (t253.toList == t254.toList) = false := beq_eq_false_iff_ne.mpr c12
    have c12b1 : (t253.toList != t254.toList) = true := bne_iff_ne.mpr c12
    (first | rw [c12b0] | (simp only [i64_w, i32_w]; rw [c12b0]) | skip)
    have H' := am H
    clear H
    go_wp2
    go_meet
    case rel => exact ⟨_, (true), (by first | rfl | (simp; done) | (simp [*]; done)), H', ⟨by first | omega | exact Nat.le_refl _⟩, ⟨ru HO250.out⟩, ⟨by (with_reducible repeat (first | apply Kd.Q_alloc | apply Kd.Q_drewN | apply Kd.Q_drew)); exact HO252.out⟩, ⟨bu HB.out⟩⟩
  case rest =>
   clear HC6
   try clear c1
   try clear c2
   try clear c2b0
   try clear c2b1
   try clear p2
   try clear c4
   try clear c9
   try clear c12
   try clear c12b0
   try clear c12b1
   obtain ⟨kq, x30_5, rfl, HA, HJ5, HO_3, HO_4, HB⟩ := hcut
   cases kq with
   | zero => exact absurd HA.out (by simp [laws_FnSing.j0])
   | succ kj5 =>
    have H := HA.out
    clear HA
    simp only [laws_FnSing.j0] at H
    by_cases c13 : x30_5 = true
    ·subst c13
     have H1 : (some (t253.toList == t254.toList)) = some r := by rw [if_pos rfl] at H; exact H
     clear H
     have H := H1
     clear H1
     obtain rfl := Option.some.inj H
     go_wp2
     go_ret
     exact ⟨by first | rfl | (simp [errW_none, errW_some] <;> rfl) | (simp [*, errW_none, errW_some] <;> rfl), bu HB.out⟩
    ·replace c13 := Bool.eq_false_iff.mpr c13
     subst c13
     have H1 : ((impl_SingBest.f kj5 t247).bind fun bt255 => ((impl_SingMutations.f kj5 t247 t248).bind fun t259 => (if bt255.2 = true then ((impl_SingOk.f kj5 t247 t248).bind fun t260 => (if t260 = true then ((laws_names.f kj5 t253).bind fun t261 => (if t261 = (t247.length : Int) then ((impl_SingMutations.f kj5 t247 bt255.1).bind fun t262 => (if t259 ≥ t262 then (some (decide (t259 < (t247.length : Int)))) else (some false))) else (some false))) else (some false))) else (some false)))) = some r := by rw [if_neg (show ¬ (false = true) by decide)] at H; exact H
     clear H
     have H := H1
     clear H1
     replace H := Option.bind_eq_some_iff.mp H
     obtain ⟨⟨t255, t256⟩, A140, H⟩ := H
     replace H : ((impl_SingMutations.f kj5 t247 t248).bind fun t259 => (if t256 = true then ((impl_SingOk.f kj5 t247 t248).bind fun t260 => (if t260 = true then ((laws_names.f kj5 t253).bind fun t261 => (if t261 = (t247.length : Int) then ((impl_SingMutations.f kj5 t247 t255).bind fun t262 => (if t259 ≥ t262 then (some (decide (t259 < (t247.length : Int)))) else (some false))) else (some false))) else (some false))) else (some false))) = some r := H
     have A14 := am A140
     clear A140
     replace H := Option.bind_eq_some_iff.mp H
     obtain ⟨t259, A150, H⟩ := H
     replace H : (if t256 = true then ((impl_SingOk.f kj5 t247 t248).bind fun t260 => (if t260 = true then ((laws_names.f kj5 t253).bind fun t261 => (if t261 = (t247.length : Int) then ((impl_SingMutations.f kj5 t247 t255).bind fun t262 => (if t259 ≥ t262 then (some (decide (t259 < (t247.length : Int)))) else (some false))) else (some false))) else (some false))) else (some false)) = some r := H
     have A15 := am A150
     clear A150
     by_cases c16 : t256 = true
     ·subst c16
      have H1 : ((impl_SingOk.f kj5 t247 t248).bind fun t260 => (if t260 = true then ((laws_names.f kj5 t253).bind fun t261 => (if t261 = (t247.length : Int) then ((impl_SingMutations.f kj5 t247 t255).bind fun t262 => (if t259 ≥ t262 then (some (decide (t259 < (t247.length : Int)))) else (some false))) else (some false))) else (some false))) = some r := by rw [if_pos rfl] at H; exact H
      clear H
      have H := H1
      clear H1
      replace H := Option.bind_eq_some_iff.mp H
      obtain ⟨t260, A170, H⟩ := H
      replace H : (if t260 = true then ((laws_names.f kj5 t253).bind fun t261 => (if t261 = (t247.length : Int) then ((impl_SingMutations.f kj5 t247 t255).bind fun t262 => (if t259 ≥ t262 then (some (decide (t259 < (t247.length : Int)))) else (some false))) else (some false))) else (some false)) = some r := H
      have A17 := am A170
      clear A170
      by_cases c18 : t260 = true
      ·subst c18
       have H1 : ((laws_names.f kj5 t253).bind fun t261 => (if t261 = (t247.length : Int) then ((impl_SingMutations.f kj5 t247 t255).bind fun t262 => (if t259 ≥ t262 then (some (decide (t259 < (t247.length : Int)))) else (some false))) else (some false))) = some r := by rw [if_pos rfl] at H; exact H
       clear H
       have H := H1
       clear H1
       replace H := Option.bind_eq_some_iff.mp H
       obtain ⟨t261, A190, H⟩ := H
       replace H : (if t261 = (t247.length : Int) then ((impl_SingMutations.f kj5 t247 t255).bind fun t262 => (if t259 ≥ t262 then (some (decide (t259 < (t247.length : Int)))) else (some false))) else (some false)) = some r := H
       have A19 := am A190
       clear A190
       by_cases c20 : t261 = (t247.length : Int)
       ·rw [if_pos c20] at H
        have c20b0 : (t261 == (t247.length : Int)) = true := beq_iff_eq.mpr c20
        have c20b1 : (t261 != (t247.length : Int)) = false := bne_eq_false_iff_eq.mpr c20
        clear c20
        replace H := Option.bind_eq_some_iff.mp H
        obtain ⟨t262, A210, H⟩ := H
        replace H : (if t259 ≥ t262 then (some (decide (t259 < (t247.length : Int)))) else (some false)) = some r := H
        have A21 := am A210
        clear A210
        by_cases c22 : t259 ≥ t262
        ·rw [if_pos c22] at H
         have c22b0 : decide (t262 ≤ t259) = true := decide_eq_true c22
         clear c22
         obtain rfl := Option.some.inj H
         go_wp2_with (first | ((with_reducible refine gate_callee (f := 37) rfl ?_); refine goesL_ (some 36) rfl rfl Tryd.func37 (by kernel_rfl) rfl #[.slice Ao8 t247.length co8] rfl (by (try simp only [List.map_toArray, List.map_cons, List.map_nil]); first | done | rfl | (simp only [List.length_drop, List.length_take]; rfl)) ?_; (with_reducible refine (impl_SingBest.calls kj5 _ _ t247 t255 true _ ?side1 ?side2 ?side3 A14.out).mono ?_); (case side1 => exact cu (Kd.R_reads' HO_3.out).2.2); (case side2 => exact (Kd.R_reads' HO_3.out).2.1); (case side3 => first | exact HTL.out | exact TabAt.below HTL.out (bu HB.out)); rintro e w23 ⟨v257, rfl, ho0, hb⟩; refine ⟨_, rfl, ?_⟩; have n0_ := am (Kd.R_below (ru HO_3.out) hb); have n1_ := am (Kd.Q_elder' (by (with_reducible repeat (first | apply Kd.Q_alloc | apply Kd.Q_drewN | apply Kd.Q_drew)); exact HO_4.out) (Kd.R_base ho0) hb); have n2_ := am (Kd.R_lower (Kd.R_new' ho0 (Kd.Q_lt (by (with_reducible repeat (first | apply Kd.Q_alloc | apply Kd.Q_drewN | apply Kd.Q_drew)); exact HO_4.out))) (below_size (bu HB.out))); have n3_ := am (below_step (bu HB.out) hb); clear HO_3; clear HO_4; clear HB; have HO_3 := n0_; have HO_4 := n1_; have HO258 := n2_; have HB := n3_; clear n0_ n1_ n2_ n3_; (try clear hb); (try clear hb2); (try clear hk); (try clear hi); (try clear ho0)) | ((with_reducible refine gate_callee (f := 39) rfl ?_); refine goesL_ (some 41) rfl rfl Tryd.func39 (by kernel_rfl) rfl #[.slice Ao8 t247.length co8, .slice Ao9 t248.length co9] rfl (by (try simp only [List.map_toArray, List.map_cons, List.map_nil]); first | done | rfl | (simp only [List.length_drop, List.length_take]; rfl)) ?_; (with_reducible refine (impl_SingMutations.calls kj5 _ _ t247 _ _ t248 t259 _ ?side1 ?side2 ?side3 ?side4 ?side5 A15.out).mono ?_); (case side1 => exact cu (Kd.R_reads' HO_3.out).2.2); (case side2 => exact (Kd.R_reads' HO_3.out).2.1); (case side3 => repeat (first | exact (Kd.Q_reads' HO_4.out).2.2 | (with_reducible refine Kd.C_alloc ?_ _) | (with_reducible refine Kd.C_drewN ?_ _) | (with_reducible refine Kd.C_drew ?_))); (case side4 => exact (Kd.Q_reads' HO_4.out).2.1); (case side5 => first | exact HTL.out | exact TabAt.below HTL.out (bu HB.out)); rintro e w24 ⟨rfl, hb⟩; refine ⟨_, rfl, ?_⟩; have n0_ := am (Kd.R_below (ru HO_3.out) hb); have n1_ := am (Kd.Q_below (by (with_reducible repeat (first | apply Kd.Q_alloc | apply Kd.Q_drewN | apply Kd.Q_drew)); exact HO_4.out) hb); have n2_ := am (Kd.R_below (ru HO258.out) hb); have n3_ := am (below_step (bu HB.out) hb); clear HO_3; clear HO_4; clear HO258; clear HB; have HO_3 := n0_; have HO_4 := n1_; have HO258 := n2_; have HB := n3_; clear n0_ n1_ n2_ n3_; (try clear hb); (try clear hb2); (try clear hk); (try clear hi)) | (go_at_call 45; (with_reducible refine (impl_SingOk.calls kj5 _ _ t247 _ _ t248 true _ ?side1 ?side2 ?side3 ?side4 ?side5 A17.out).mono ?_); (case side1 => exact cu (Kd.R_reads' HO_3.out).2.2); (case side2 => exact (Kd.R_reads' HO_3.out).2.1); (case side3 => repeat (first | exact (Kd.Q_reads' HO_4.out).2.2 | (with_reducible refine Kd.C_alloc ?_ _) | (with_reducible refine Kd.C_drewN ?_ _) | (with_reducible refine Kd.C_drew ?_))); (case side4 => exact (Kd.Q_reads' HO_4.out).2.1); (case side5 => first | exact HTL.out | exact TabAt.below HTL.out (bu HB.out)); rintro e w25 ⟨rfl, hb⟩; have n0_ := am (Kd.R_below (ru HO_3.out) hb); have n1_ := am (Kd.Q_below (by (with_reducible repeat (first | apply Kd.Q_alloc | apply Kd.Q_drewN | apply Kd.Q_drew)); exact HO_4.out) hb); have n2_ := am (Kd.R_below (ru HO258.out) hb); have n3_ := am (below_step (bu HB.out) hb); clear HO_3; clear HO_4; clear HO258; clear HB; have HO_3 := n0_; have HO_4 := n1_; have HO258 := n2_; have HB := n3_; clear n0_ n1_ n2_ n3_; (try clear hb); (try clear hb2); (try clear hk); (try clear hi)) | (go_at_call 46; (with_reducible refine (laws_names.calls kj5 t253 t261 _ A19.out).mono ?_); rintro e w' ⟨rfl, ⟨nd, rfl⟩⟩; obtain ⟨Ao26, co26, eo26⟩ := Kd.R_slice HO258.out; subst eo26) | (go_at_call 39; (with_reducible refine (impl_SingMutations.calls kj5 _ _ t247 _ _ t255 t262 _ ?side1 ?side2 ?side3 ?side4 ?side5 A21.out).mono ?_); (case side1 => exact cu (Kd.R_reads' HO_3.out).2.2); (case side2 => exact (Kd.R_reads' HO_3.out).2.1); (case side3 => exact cu (Kd.R_reads' HO258.out).2.2); (case side4 => exact (Kd.R_reads' HO258.out).2.1); (case side5 => first | exact HTL.out | exact TabAt.below HTL.out (bu HB.out)); rintro e w27 ⟨rfl, hb⟩; have n0_ := am (Kd.R_below (ru HO_3.out) hb); have n1_ := am (Kd.Q_below (by (with_reducible repeat (first | apply Kd.Q_alloc | apply Kd.Q_drewN | apply Kd.Q_drew)); exact HO_4.out) hb); have n2_ := am (Kd.R_below (ru HO258.out) hb); have n3_ := am (below_step (bu HB.out) hb); clear HO_3; clear HO_4; clear HO258; clear HB; have HO_3 := n0_; have HO_4 := n1_; have HO258 := n2_; have HB := n3_; clear n0_ n1_ n2_ n3_; (try clear hb); (try clear hb2); (try clear hk); (try clear hi)))
         go_ret
         exact ⟨by first | rfl | (simp [errW_none, errW_some] <;> rfl) | (simp [*, errW_none, errW_some] <;> rfl), bu HB.out⟩
        ·rw [if_neg c22] at H
         have c22b0 : decide (t262 ≤ t259) = false := decide_eq_false c22
         clear c22
         obtain rfl := Option.some.inj H
         go_wp2_with (first | ((with_reducible refine gate_callee (f := 37) rfl ?_); refine goesL_ (some 36) rfl rfl Tryd.func37 (by kernel_rfl) rfl #[.slice Ao8 t247.length co8] rfl (by (try simp only [List.map_toArray, List.map_cons, List.map_nil]); first | done | rfl | (simp only [List.length_drop, List.length_take]; rfl)) ?_; (with_reducible refine (impl_SingBest.calls kj5 _ _ t247 t255 true _ ?side1 ?side2 ?side3 A14.out).mono ?_); (case side1 => exact cu (Kd.R_reads' HO_3.out).2.2); (case side2 => exact (Kd.R_reads' HO_3.out).2.1); (case side3 => first | exact HTL.out | exact TabAt.below HTL.out (bu HB.out)); rintro e w28 ⟨v257, rfl, ho0, hb⟩; refine ⟨_, rfl, ?_⟩; have n0_ := am (Kd.R_below (ru HO_3.out) hb); have n1_ := am (Kd.Q_elder' (by (with_reducible repeat (first | apply Kd.Q_alloc | apply Kd.Q_drewN | apply Kd.Q_drew)); exact HO_4.out) (Kd.R_base ho0) hb); have n2_ := am (Kd.R_lower (Kd.R_new' ho0 (Kd.Q_lt (by (with_reducible repeat (first | apply Kd.Q_alloc | apply Kd.Q_drewN | apply Kd.Q_drew)); exact HO_4.out))) (below_size (bu HB.out))); have n3_ := am (below_step (bu HB.out) hb); clear HO_3; clear HO_4; clear HB; have HO_3 := n0_; have HO_4 := n1_; have HO258 := n2_; have HB := n3_; clear n0_ n1_ n2_ n3_; (try clear hb); (try clear hb2); (try clear hk); (try clear hi); (try clear ho0)) | ((with_reducible refine gate_callee (f := 39) rfl ?_); refine goesL_ (some 41) rfl rfl Tryd.func39 (by kernel_rfl) rfl #[.slice Ao8 t247.length co8, .slice Ao9 t248.length co9] rfl (by (try simp only [List.map_toArray, List.map_cons, List.map_nil]); first | done | rfl | (simp only [List.length_drop, List.length_take]; rfl)) ?_; (with_reducible refine (impl_SingMutations.calls kj5 _ _ t247 _ _ t248 t259 _ ?side1 ?side2 ?side3 ?side4 ?side5 A15.out).mono ?_); (case side1 => exact cu (Kd.R_reads' HO_3.out).2.2); (case side2 => exact (Kd.R_reads' HO_3.out).2.1); (case side3 => repeat (first | exact (Kd.Q_reads' HO_4.out).2.2 | (with_reducible refine Kd.C_alloc ?_ _) | (with_reducible refine Kd.C_drewN ?_ _) | (with_reducible refine Kd.C_drew ?_))); (case side4 => exact (Kd.Q_reads' HO_4.out).2.1); (case side5 => first | exact HTL.out | exact TabAt.below HTL.out (bu HB.out)); rintro e w29 ⟨rfl, hb⟩; refine ⟨_, rfl, ?_⟩; have n0_ := am (Kd.R_below (ru HO_3.out) hb); have n1_ := am (Kd.Q_below (by (with_reducible repeat (first | apply Kd.Q_alloc | apply Kd.Q_drewN | apply Kd.Q_drew)); exact HO_4.out) hb); have n2_ := am (Kd.R_below (ru HO258.out) hb); have n3_ := am (below_step (bu HB.out) hb); clear HO_3; clear HO_4; clear HO258; clear HB; have HO_3 := n0_; have HO_4 := n1_; have HO258 := n2_; have HB := n3_; clear n0_ n1_ n2_ n3_; (try clear hb); (try clear hb2); (try clear hk); (try clear hi)) | (go_at_call 45; (with_reducible refine (impl_SingOk.calls kj5 _ _ t247 _ _ t248 true _ ?side1 ?side2 ?side3 ?side4 ?side5 A17.out).mono ?_); (case side1 => exact cu (Kd.R_reads' HO_3.out).2.2); (case side2 => exact (Kd.R_reads' HO_3.out).2.1); (case side3 => repeat (first | exact (Kd.Q_reads' HO_4.out).2.2 | (with_reducible refine Kd.C_alloc ?_ _) | (with_reducible refine Kd.C_drewN ?_ _) | (with_reducible refine Kd.C_drew ?_))); (case side4 => exact (Kd.Q_reads' HO_4.out).2.1); (case side5 => first | exact HTL.out | exact TabAt.below HTL.out (bu HB.out)); rintro e w30 ⟨rfl, hb⟩; have n0_ := am (Kd.R_below (ru HO_3.out) hb); have n1_ := am (Kd.Q_below (by (with_reducible repeat (first | apply Kd.Q_alloc | apply Kd.Q_drewN | apply Kd.Q_drew)); exact HO_4.out) hb); have n2_ := am (Kd.R_below (ru HO258.out) hb); have n3_ := am (below_step (bu HB.out) hb); clear HO_3; clear HO_4; clear HO258; clear HB; have HO_3 := n0_; have HO_4 := n1_; have HO258 := n2_; have HB := n3_; clear n0_ n1_ n2_ n3_; (try clear hb); (try clear hb2); (try clear hk); (try clear hi)) | (go_at_call 46; (with_reducible refine (laws_names.calls kj5 t253 t261 _ A19.out).mono ?_); rintro e w' ⟨rfl, ⟨nd, rfl⟩⟩; obtain ⟨Ao31, co31, eo31⟩ := Kd.R_slice HO258.out; subst eo31) | (go_at_call 39; (with_reducible refine (impl_SingMutations.calls kj5 _ _ t247 _ _ t255 t262 _ ?side1 ?side2 ?side3 ?side4 ?side5 A21.out).mono ?_); (case side1 => exact cu (Kd.R_reads' HO_3.out).2.2); (case side2 => exact (Kd.R_reads' HO_3.out).2.1); (case side3 => exact cu (Kd.R_reads' HO258.out).2.2); (case side4 => exact (Kd.R_reads' HO258.out).2.1); (case side5 => first | exact HTL.out | exact TabAt.below HTL.out (bu HB.out)); rintro e w32 ⟨rfl, hb⟩; have n0_ := am (Kd.R_below (ru HO_3.out) hb); have n1_ := am (Kd.Q_below (by (with_reducible repeat (first | apply Kd.Q_alloc | apply Kd.Q_drewN | apply Kd.Q_drew)); exact HO_4.out) hb); have n2_ := am (Kd.R_below (ru HO258.out) hb); have n3_ := am (below_step (bu HB.out) hb); clear HO_3; clear HO_4; clear HO258; clear HB; have HO_3 := n0_; have HO_4 := n1_; have HO258 := n2_; have HB := n3_; clear n0_ n1_ n2_ n3_; (try clear hb); (try clear hb2); (try clear hk); (try clear hi)))
         go_ret
         exact ⟨by first | rfl | (simp [errW_none, errW_some] <;> rfl) | (simp [*, errW_none, errW_some] <;> rfl), bu HB.out⟩
       ·rw [if_neg c20] at H
        have c20b0 : (t261 == (t247.length : Int)) = false := beq_eq_false_iff_ne.mpr c20
        have c20b1 : (t261 != (t247.length : Int)) = true := bne_iff_ne.mpr c20
        obtain rfl := Option.some.inj H
        go_wp2_with (first | ((with_reducible refine gate_callee (f := 37) rfl ?_); refine goesL_ (some 36) rfl rfl Tryd.func37 (by kernel_rfl) rfl #[.slice Ao8 t247.length co8] rfl (by (try simp only [List.map_toArray, List.map_cons, List.map_nil]); first | done | rfl | (simp only [List.length_drop, List.length_take]; rfl)) ?_; (with_reducible refine (impl_SingBest.calls kj5 _ _ t247 t255 true _ ?side1 ?side2 ?side3 A14.out).mono ?_); (case side1 => exact cu (Kd.R_reads' HO_3.out).2.2); (case side2 => exact (Kd.R_reads' HO_3.out).2.1); (case side3 => first | exact HTL.out | exact TabAt.below HTL.out (bu HB.out)); rintro e w33 ⟨v257, rfl, ho0, hb⟩; refine ⟨_, rfl, ?_⟩; have n0_ := am (Kd.R_below (ru HO_3.out) hb); have n1_ := am (Kd.Q_elder' (by (with_reducible repeat (first | apply Kd.Q_alloc | apply Kd.Q_drewN | apply Kd.Q_drew)); exact HO_4.out) (Kd.R_base ho0) hb); have n2_ := am (Kd.R_lower (Kd.R_new' ho0 (Kd.Q_lt (by (with_reducible repeat (first | apply Kd.Q_alloc | apply Kd.Q_drewN | apply Kd.Q_drew)); exact HO_4.out))) (below_size (bu HB.out))); have n3_ := am (below_step (bu HB.out) hb); clear HO_3; clear HO_4; clear HB; have HO_3 := n0_; have HO_4 := n1_; have HO258 := n2_; have HB := n3_; clear n0_ n1_ n2_ n3_; (try clear hb); (try clear hb2); (try clear hk); (try clear hi); (try clear ho0)) | ((with_reducible refine gate_callee (f := 39) rfl ?_); refine goesL_ (some 41) rfl rfl Tryd.func39 (by kernel_rfl) rfl #[.slice Ao8 t247.length co8, .slice Ao9 t248.length co9] rfl (by (try simp only [List.map_toArray, List.map_cons, List.map_nil]); first | done | rfl | (simp only [List.length_drop, List.length_take]; rfl)) ?_; (with_reducible refine (impl_SingMutations.calls kj5 _ _ t247 _ _ t248 t259 _ ?side1 ?side2 ?side3 ?side4 ?side5 A15.out).mono ?_); (case side1 => exact cu (Kd.R_reads' HO_3.out).2.2); (case side2 => exact (Kd.R_reads' HO_3.out).2.1); (case side3 => repeat (first | exact (Kd.Q_reads' HO_4.out).2.2 | (with_reducible refine Kd.C_alloc ?_ _) | (with_reducible refine Kd.C_drewN ?_ _) | (with_reducible refine Kd.C_drew ?_))); (case side4 => exact (Kd.Q_reads' HO_4.out).2.1); (case side5 => first | exact HTL.out | exact TabAt.below HTL.out (bu HB.out)); rintro e w34 ⟨rfl, hb⟩; refine ⟨_, rfl, ?_⟩; have n0_ := am (Kd.R_below (ru HO_3.out) hb); have n1_ := am (Kd.Q_below (by (with_reducible repeat (first | apply Kd.Q_alloc | apply Kd.Q_drewN | apply Kd.Q_drew)); exact HO_4.out) hb); have n2_ := am (Kd.R_below (ru HO258.out) hb); have n3_ := am (below_step (bu HB.out) hb); clear HO_3; clear HO_4; clear HO258; clear HB; have HO_3 := n0_; have HO_4 := n1_; have HO258 := n2_; have HB := n3_; clear n0_ n1_ n2_ n3_; (try clear hb); (try clear hb2); (try clear hk); (try clear hi)) | (go_at_call 45; (with_reducible refine (impl_SingOk.calls kj5 _ _ t247 _ _ t248 true _ ?side1 ?side2 ?side3 ?side4 ?side5 A17.out).mono ?_); (case side1 => exact cu (Kd.R_reads' HO_3.out).2.2); (case side2 => exact (Kd.R_reads' HO_3.out).2.1); (case side3 => repeat (first | exact (Kd.Q_reads' HO_4.out).2.2 | (with_reducible refine Kd.C_alloc ?_ _) | (with_reducible refine Kd.C_drewN ?_ _) | (with_reducible refine Kd.C_drew ?_))); (case side4 => exact (Kd.Q_reads' HO_4.out).2.1); (case side5 => first | exact HTL.out | exact TabAt.below HTL.out (bu HB.out)); rintro e w35 ⟨rfl, hb⟩; have n0_ := am (Kd.R_below (ru HO_3.out) hb); have n1_ := am (Kd.Q_below (by (with_reducible repeat (first | apply Kd.Q_alloc | apply Kd.Q_drewN | apply Kd.Q_drew)); exact HO_4.out) hb); have n2_ := am (Kd.R_below (ru HO258.out) hb); have n3_ := am (below_step (bu HB.out) hb); clear HO_3; clear HO_4; clear HO258; clear HB; have HO_3 := n0_; have HO_4 := n1_; have HO258 := n2_; have HB := n3_; clear n0_ n1_ n2_ n3_; (try clear hb); (try clear hb2); (try clear hk); (try clear hi)) | (go_at_call 46; (with_reducible refine (laws_names.calls kj5 t253 t261 _ A19.out).mono ?_); rintro e w' ⟨rfl, ⟨nd, rfl⟩⟩))
        go_ret
        exact ⟨by first | rfl | (simp [errW_none, errW_some] <;> rfl) | (simp [*, errW_none, errW_some] <;> rfl), bu HB.out⟩
      ·replace c18 := Bool.eq_false_iff.mpr c18
       subst c18
       have H1 : (some false) = some r := by rw [if_neg (show ¬ (false = true) by decide)] at H; exact H
       clear H
       have H := H1
       clear H1
       obtain rfl := Option.some.inj H
       go_wp2_with (first | ((with_reducible refine gate_callee (f := 37) rfl ?_); refine goesL_ (some 36) rfl rfl Tryd.func37 (by kernel_rfl) rfl #[.slice Ao8 t247.length co8] rfl (by (try simp only [List.map_toArray, List.map_cons, List.map_nil]); first | done | rfl | (simp only [List.length_drop, List.length_take]; rfl)) ?_; (with_reducible refine (impl_SingBest.calls kj5 _ _ t247 t255 true _ ?side1 ?side2 ?side3 A14.out).mono ?_); (case side1 => exact cu (Kd.R_reads' HO_3.out).2.2); (case side2 => exact (Kd.R_reads' HO_3.out).2.1); (case side3 => first | exact HTL.out | exact TabAt.below HTL.out (bu HB.out)); rintro e w36 ⟨v257, rfl, ho0, hb⟩; refine ⟨_, rfl, ?_⟩; have n0_ := am (Kd.R_below (ru HO_3.out) hb); have n1_ := am (Kd.Q_elder' (by (with_reducible repeat (first | apply Kd.Q_alloc | apply Kd.Q_drewN | apply Kd.Q_drew)); exact HO_4.out) (Kd.R_base ho0) hb); have n2_ := am (Kd.R_lower (Kd.R_new' ho0 (Kd.Q_lt (by (with_reducible repeat (first | apply Kd.Q_alloc | apply Kd.Q_drewN | apply Kd.Q_drew)); exact HO_4.out))) (below_size (bu HB.out))); have n3_ := am (below_step (bu HB.out) hb); clear HO_3; clear HO_4; clear HB; have HO_3 := n0_; have HO_4 := n1_; have HO258 := n2_; have HB := n3_; clear n0_ n1_ n2_ n3_; (try clear hb); (try clear hb2); (try clear hk); (try clear hi); (try clear ho0)) | ((with_reducible refine gate_callee (f := 39) rfl ?_); refine goesL_ (some 41) rfl rfl Tryd.func39 (by kernel_rfl) rfl #[.slice Ao8 t247.length co8, .slice Ao9 t248.length co9] rfl (by (try simp only [List.map_toArray, List.map_cons, List.map_nil]); first | done | rfl | (simp only [List.length_drop, List.length_take]; rfl)) ?_; (with_reducible refine (impl_SingMutations.calls kj5 _ _ t247 _ _ t248 t259 _ ?side1 ?side2 ?side3 ?side4 ?side5 A15.out).mono ?_); (case side1 => exact cu (Kd.R_reads' HO_3.out).2.2); (case side2 => exact (Kd.R_reads' HO_3.out).2.1); (case side3 => repeat (first | exact (Kd.Q_reads' HO_4.out).2.2 | (with_reducible refine Kd.C_alloc ?_ _) | (with_reducible refine Kd.C_drewN ?_ _) | (with_reducible refine Kd.C_drew ?_))); (case side4 => exact (Kd.Q_reads' HO_4.out).2.1); (case side5 => first | exact HTL.out | exact TabAt.below HTL.out (bu HB.out)); rintro e w37 ⟨rfl, hb⟩; refine ⟨_, rfl, ?_⟩; have n0_ := am (Kd.R_below (ru HO_3.out) hb); have n1_ := am (Kd.Q_below (by (with_reducible repeat (first | apply Kd.Q_alloc | apply Kd.Q_drewN | apply Kd.Q_drew)); exact HO_4.out) hb); have n2_ := am (Kd.R_below (ru HO258.out) hb); have n3_ := am (below_step (bu HB.out) hb); clear HO_3; clear HO_4; clear HO258; clear HB; have HO_3 := n0_; have HO_4 := n1_; have HO258 := n2_; have HB := n3_; clear n0_ n1_ n2_ n3_; (try clear hb); (try clear hb2); (try clear hk); (try clear hi)) | (go_at_call 45; (with_reducible refine (impl_SingOk.calls kj5 _ _ t247 _ _ t248 false _ ?side1 ?side2 ?side3 ?side4 ?side5 A17.out).mono ?_); (case side1 => exact cu (Kd.R_reads' HO_3.out).2.2); (case side2 => exact (Kd.R_reads' HO_3.out).2.1); (case side3 => repeat (first | exact (Kd.Q_reads' HO_4.out).2.2 | (with_reducible refine Kd.C_alloc ?_ _) | (with_reducible refine Kd.C_drewN ?_ _) | (with_reducible refine Kd.C_drew ?_))); (case side4 => exact (Kd.Q_reads' HO_4.out).2.1); (case side5 => first | exact HTL.out | exact TabAt.below HTL.out (bu HB.out)); rintro e w38 ⟨rfl, hb⟩; have n0_ := am (Kd.R_below (ru HO_3.out) hb); have n1_ := am (Kd.Q_below (by (with_reducible repeat (first | apply Kd.Q_alloc | apply Kd.Q_drewN | apply Kd.Q_drew)); exact HO_4.out) hb); have n2_ := am (Kd.R_below (ru HO258.out) hb); have n3_ := am (below_step (bu HB.out) hb); clear HO_3; clear HO_4; clear HO258; clear HB; have HO_3 := n0_; have HO_4 := n1_; have HO258 := n2_; have HB := n3_; clear n0_ n1_ n2_ n3_; (try clear hb); (try clear hb2); (try clear hk); (try clear hi)))
       go_ret
       exact ⟨by first | rfl | (simp [errW_none, errW_some] <;> rfl) | (simp [*, errW_none, errW_some] <;> rfl), bu HB.out⟩
     ·replace c16 := Bool.eq_false_iff.mpr c16
      subst c16
      have H1 : (some false) = some r := by rw [if_neg (show ¬ (false = true) by decide)] at H; exact H
      clear H
      have H := H1
      clear H1
      obtain rfl := Option.some.inj H
      go_wp2_with (first | ((with_reducible refine gate_callee (f := 37) rfl ?_); refine goesL_ (some 36) rfl rfl Tryd.func37 (by kernel_rfl) rfl #[.slice Ao8 t247.length co8] rfl (by (try simp only [List.map_toArray, List.map_cons, List.map_nil]); first | done | rfl | (simp only [List.length_drop, List.length_take]; rfl)) ?_; (with_reducible refine (impl_SingBest.calls kj5 _ _ t247 t255 false _ ?side1 ?side2 ?side3 A14.out).mono ?_); (case side1 => exact cu (Kd.R_reads' HO_3.out).2.2); (case side2 => exact (Kd.R_reads' HO_3.out).2.1); (case side3 => first | exact HTL.out | exact TabAt.below HTL.out (bu HB.out)); rintro e w39 ⟨v257, rfl, ho0, hb⟩; refine ⟨_, rfl, ?_⟩; have n0_ := am (Kd.R_below (ru HO_3.out) hb); have n1_ := am (Kd.Q_elder' (by (with_reducible repeat (first | apply Kd.Q_alloc | apply Kd.Q_drewN | apply Kd.Q_drew)); exact HO_4.out) (Kd.R_base ho0) hb); have n2_ := am (Kd.R_lower (Kd.R_new' ho0 (Kd.Q_lt (by (with_reducible repeat (first | apply Kd.Q_alloc | apply Kd.Q_drewN | apply Kd.Q_drew)); exact HO_4.out))) (below_size (bu HB.out))); have n3_ := am (below_step (bu HB.out) hb); clear HO_3; clear HO_4; clear HB; have HO_3 := n0_; have HO_4 := n1_; have HO258 := n2_; have HB := n3_; clear n0_ n1_ n2_ n3_; (try clear hb); (try clear hb2); (try clear hk); (try clear hi); (try clear ho0)) | ((with_reducible refine gate_callee (f := 39) rfl ?_); refine goesL_ (some 41) rfl rfl Tryd.func39 (by kernel_rfl) rfl #[.slice Ao8 t247.length co8, .slice Ao9 t248.length co9] rfl (by (try simp only [List.map_toArray, List.map_cons, List.map_nil]); first | done | rfl | (simp only [List.length_drop, List.length_take]; rfl)) ?_; (with_reducible refine (impl_SingMutations.calls kj5 _ _ t247 _ _ t248 t259 _ ?side1 ?side2 ?side3 ?side4 ?side5 A15.out).mono ?_); (case side1 => exact cu (Kd.R_reads' HO_3.out).2.2); (case side2 => exact (Kd.R_reads' HO_3.out).2.1); (case side3 => repeat (first | exact (Kd.Q_reads' HO_4.out).2.2 | (with_reducible refine Kd.C_alloc ?_ _) | (with_reducible refine Kd.C_drewN ?_ _) | (with_reducible refine Kd.C_drew ?_))); (case side4 => exact (Kd.Q_reads' HO_4.out).2.1); (case side5 => first | exact HTL.out | exact TabAt.below HTL.out (bu HB.out)); rintro e w40 ⟨rfl, hb⟩; refine ⟨_, rfl, ?_⟩; have n0_ := am (Kd.R_below (ru HO_3.out) hb); have n1_ := am (Kd.Q_below (by (with_reducible repeat (first | apply Kd.Q_alloc | apply Kd.Q_drewN | apply Kd.Q_drew)); exact HO_4.out) hb); have n2_ := am (Kd.R_below (ru HO258.out) hb); have n3_ := am (below_step (bu HB.out) hb); clear HO_3; clear HO_4; clear HO258; clear HB; have HO_3 := n0_; have HO_4 := n1_; have HO258 := n2_; have HB := n3_; clear n0_ n1_ n2_ n3_; (try clear hb); (try clear hb2); (try clear hk); (try clear hi)))
      go_ret
      exact ⟨by first | rfl | (simp [errW_none, errW_some] <;> rfl) | (simp [*, errW_none, errW_some] <;> rfl), bu HB.out⟩

end Go.Proofs.YtcndojoghmblaaaDoor.SG
