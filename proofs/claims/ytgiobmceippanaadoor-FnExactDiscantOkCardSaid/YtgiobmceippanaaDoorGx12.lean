-- Made by this session's gprint.py out of the translation. Not trusted: Lean checks it.
import Derived.Test.YtgiobmceippanaaDoorGx0
namespace Go.Proofs.YtgiobmceippanaaDoor.G
open Go.RowKit Go.Proofs.YtgiobmceippanaaDoorW.PrintWords Go.Proofs.YtgiobmceippanaaDoorW.PrintLast Go.Proofs.YtgiobmceippanaaDoorW.PrintMore
attribute [local go_sem] max2_int min2_int max_two min_two max_three min_three max_four min_four   -- for this text's walks alone
set_option linter.unusedVariables false
set_option linter.unusedSimpArgs false

/-! ### stringslite_HasSuffix: function 71 -/
def stringslite_HasSuffix.f (a0 : ByteArray) (a1 : ByteArray) : Option (Bool) := if (a0.size : Int) ≥ (a1.size : Int) then (if 0 ≤ (wrap64 ((a0.size : Int) - (a1.size : Int))) then (if (wrap64 ((a0.size : Int) - (a1.size : Int))) ≤ (a0.size : Int) then (some ((a0.extract ((wrap64 ((a0.size : Int) - (a1.size : Int))) : Int).toNat a0.size).toList == a1.toList)) else (none)) else (none)) else (some false)
set_option maxHeartbeats 8000000 in
set_option maxRecDepth 100000 in
theorem stringslite_HasSuffix.calls (a0 : ByteArray) (a1 : ByteArray) (r : Bool) (w : World) (h : stringslite_HasSuffix.f a0 a1 = some r) :
    Calls Tryd.prog 71 #[.string a0, .string a1] w fun e w' => e = .returned (.bool r) ∧ Drawn0 w w' := by
  have H : (if (a0.size : Int) ≥ (a1.size : Int) then (if 0 ≤ (wrap64 ((a0.size : Int) - (a1.size : Int))) then (if (wrap64 ((a0.size : Int) - (a1.size : Int))) ≤ (a0.size : Int) then (some ((a0.extract ((wrap64 ((a0.size : Int) - (a1.size : Int))) : Int).toNat a0.size).toList == a1.toList)) else (none)) else (none)) else (some false)) = some r := h
  clear h
  by_cases c3 : (a0.size : Int) ≥ (a1.size : Int)
  · rw [if_pos c3] at H
    have c3b0 : decide ((a1.size : Int) ≤ (a0.size : Int)) = true := decide_eq_true c3
    have c3b1 : decide (a1.size ≤ a0.size) = true := decide_eq_true (Int.ofNat_le.mp c3)
    clear c3
    obtain ⟨ji4, hji4⟩ : ∃ j_ : Int, (wrap64 ((a0.size : Int) - (a1.size : Int))) = j_ := ⟨_, rfl⟩
    replace H : (if 0 ≤ (ji4) then (if (ji4) ≤ (a0.size : Int) then (some ((a0.extract ((ji4) : Int).toNat a0.size).toList == a1.toList)) else (none)) else (none)) = some r := by first | (rw [hji4] at H; exact H) | (simp only [hji4] at H ⊢; exact H)
    have hji4w : (IntKind.i64.wrap ((a0.size : Int) - (a1.size : Int))) = ji4 := (i64_w _).trans hji4
    by_cases c5 : 0 ≤ (ji4)
    · rw [if_pos c5] at H
      have c5b0 := eq_true c5
      have c5b1 : decide (0 ≤ (ji4)) = true := decide_eq_true c5
      clear c5
      by_cases c6 : (ji4) ≤ (a0.size : Int)
      · rw [if_pos c6] at H
        have c6b0 := eq_true c6
        have c6b1 : decide ((ji4) ≤ (a0.size : Int)) = true := decide_eq_true c6
        clear c6
        obtain rfl := Option.some.inj H
        go_enter Tryd.func71, Tryd.ntmps71
        go_wp2
        go_ret
        exact ⟨by first | rfl | (simp; done) | (simp only [← hji4] <;> (first | rfl | simp)) | (simp [*]; done), by repeat (first | exact Drawn0.refl _ | apply Drawn0.step)⟩
      · rw [if_neg c6] at H
        exact absurd H (by simp)
    · rw [if_neg c5] at H
      exact absurd H (by simp)
  · rw [if_neg c3] at H
    have c3b0 : decide ((a1.size : Int) ≤ (a0.size : Int)) = false := decide_eq_false c3
    have c3b1 : decide (a1.size ≤ a0.size) = false := decide_eq_false (fun h => c3 (Int.ofNat_le.mpr h))
    clear c3
    obtain rfl := Option.some.inj H
    go_enter Tryd.func71, Tryd.ntmps71
    go_wp2
    go_ret
    exact ⟨by first | rfl | (simp; done) | (simp [*]; done), by repeat (first | exact Drawn0.refl _ | apply Drawn0.step)⟩

/-! ### strings_HasSuffix: function 64 -/
def strings_HasSuffix.f (a0 : ByteArray) (a1 : ByteArray) : Option (Bool) := (stringslite_HasSuffix.f a0 a1).bind fun t206 => (some t206)
set_option maxHeartbeats 8000000 in
set_option maxRecDepth 100000 in
theorem strings_HasSuffix.calls (a0 : ByteArray) (a1 : ByteArray) (r : Bool) (w : World) (h : strings_HasSuffix.f a0 a1 = some r) :
    Calls Tryd.prog 64 #[.string a0, .string a1] w fun e w' => e = .returned (.bool r) ∧ Drawn0 w w' := by
  have H : ((stringslite_HasSuffix.f a0 a1).bind fun t206 => (some t206)) = some r := h
  clear h
  replace H := Option.bind_eq_some_iff.mp H
  obtain ⟨t206, A30, H⟩ := H
  replace H : (some t206) = some r := H
  have A3 := Aside0.mk A30
  clear A30
  obtain rfl := Option.some.inj H
  go_enter Tryd.func64, Tryd.ntmps64
  go_wp2_with (first | ((with_reducible refine gate_callee (f := 71) rfl ?_); refine goesL_ (some 7) rfl rfl Tryd.func71 (by kernel_rfl) rfl #[.string a0, .string a1] rfl (by (try simp only [List.map_toArray, List.map_cons, List.map_nil]); first | done | rfl | (simp only [List.length_drop, List.length_take]; rfl)) ?_; (with_reducible refine (stringslite_HasSuffix.calls a0 a1 t206 _ A3.out).mono ?_); rintro e w' ⟨rfl, ⟨nd, rfl⟩⟩; refine ⟨_, rfl, ?_⟩))
  go_ret
  exact ⟨by first | rfl | (simp; done) | (simp [*]; done), by repeat (first | exact Drawn0.refl _ | apply Drawn0.step)⟩

def letHt (r : Nat) : Int := if r = 0 then 0 else if r = 1 then 2 else if r = 2 then 4 else if r = 3 then 5 else if r = 4 then 7 else if r = 5 then 9 else 10
def impl_Tone_height.f (a0 : Int) (b0 : Bool) : Option Int := if 0 ≤ a0 then (if a0 < 1000 then some (letHt (a0 % 7).toNat + 12 * (a0 / 7) - (if b0 = true then 1 else 0)) else none) else none
set_option maxHeartbeats 2000000 in
set_option maxRecDepth 100000 in
theorem impl_Tone_height.calls (a0 : Int) (b0 : Bool) (r : Int) (w : World) (hTH : TabH w) (h : impl_Tone_height.f a0 b0 = some r) :
    Calls Tryd.prog 53 #[.agg #[.int .i64 a0, .bool b0]] w fun e w' => e = .returned (.int .i64 r) ∧ Below w.heap.size w w' := by
  have hu2 := Tryd.underlying49
  have hT := hTH.alloc (.cells #[.int .i64 a0, .bool b0] 49)
  have HB0 := Aside0.mk (below_alloc (Below.refl w.heap.size w) (.cells #[.int .i64 a0, .bool b0] 49))
  unfold impl_Tone_height.f at h
  by_cases h0 : 0 ≤ a0
  · by_cases h1 : a0 < 1000
    · rw [if_pos h0, if_pos h1] at h
      have e1 := Option.some.inj h
      subst e1
      have hx : a0 % 7 = 0 ∨ a0 % 7 = 1 ∨ a0 % 7 = 2 ∨ a0 % 7 = 3 ∨ a0 % 7 = 4 ∨ a0 % 7 = 5 ∨ a0 % 7 = 6 := by omega
      have c0 : (w.alloc (.cells #[.int .i64 a0, .bool b0] 49)).cell? ⟨0, 0, none⟩ = some (.int .i64 0) := hT 0 _ rfl
      have c1 : (w.alloc (.cells #[.int .i64 a0, .bool b0] 49)).cell? ⟨0, 1, none⟩ = some (.int .i64 2) := hT 1 _ rfl
      have c2 : (w.alloc (.cells #[.int .i64 a0, .bool b0] 49)).cell? ⟨0, 2, none⟩ = some (.int .i64 4) := hT 2 _ rfl
      have c3 : (w.alloc (.cells #[.int .i64 a0, .bool b0] 49)).cell? ⟨0, 3, none⟩ = some (.int .i64 5) := hT 3 _ rfl
      have c4 : (w.alloc (.cells #[.int .i64 a0, .bool b0] 49)).cell? ⟨0, 4, none⟩ = some (.int .i64 7) := hT 4 _ rfl
      have c5 : (w.alloc (.cells #[.int .i64 a0, .bool b0] 49)).cell? ⟨0, 5, none⟩ = some (.int .i64 9) := hT 5 _ rfl
      have c6 : (w.alloc (.cells #[.int .i64 a0, .bool b0] 49)).cell? ⟨0, 6, none⟩ = some (.int .i64 10) := hT 6 _ rfl
      clear hT hTH h
      have k0 : (w.alloc (.cells #[.int .i64 a0, .bool b0] 49)).cell? ⟨w.heap.size, 0, none⟩ = some (.int .i64 a0) := blk_cell (blk_new w _) 0
      have k1 : (w.alloc (.cells #[.int .i64 a0, .bool b0] 49)).cell? ⟨w.heap.size, 1, none⟩ = some (.bool b0) := blk_cell (blk_new w _) 1
      have htm : a0.tmod 7 = a0 % 7 := Int.tmod_eq_emod_of_nonneg h0
      have htd : a0.tdiv 7 = a0 / 7 := Int.tdiv_eq_ediv_of_nonneg h0
      obtain ⟨q, hq⟩ : ∃ q, q = a0 / 7 := ⟨_, rfl⟩
      have hq0 : 0 ≤ q := by omega
      have hq1 : q < 200 := by omega
      rw [← hq] at htd
      rw [← hq]
      rcases hx with hx | hx | hx | hx | hx | hx | hx
      all_goals
        rw [hx]
        rw [hx] at htm
        have w1 : IntKind.i64.wrap (12 * q) = 12 * q := IntWalk.i64_in _ (by omega)
        have w2 : IntKind.i64.wrap (letHt (Int.toNat (a0 % 7)) + 12 * q) = letHt (Int.toNat (a0 % 7)) + 12 * q := by
          rw [hx]
          exact IntWalk.i64_in _ (by simp [letHt]; omega)
        have w3 : -9223372036854775808 ≤ letHt (Int.toNat (a0 % 7)) + 12 * q - 1 := by
          rw [hx]
          simp [letHt]
          omega
        rw [hx] at w2 w3
        obtain ⟨S, hS⟩ : ∃ S, S = letHt (Int.toNat (a0 % 7)) + 12 * q := ⟨_, rfl⟩
        rw [hx] at hS
        rw [← hS] at w2 w3
        rw [← hS]
        have w4 : S ≤ 100000 := by
          rw [hS]
          simp [letHt]
          omega
        cases b0
        all_goals
          go_enter Tryd.func53, Tryd.ntmps53
          go_wp2_with fail
          go_quiet (fail)
          go_wp2
          all_goals first
            | (exact absurd ‹false = true› (by decide))
            | (exact absurd rfl ‹¬ true = true›)
            | (go_ret; refine ⟨?_, pw_below_drewN HB0.out _⟩; refine congrArg Ending.returned (congrArg (Value.int IntKind.i64) ?_); first | rfl | (simp [letHt]; done) | (simp [letHt]; omega))
    · rw [if_pos h0, if_neg h1] at h
      exact absurd h (by simp)
  · rw [if_neg h0] at h
    exact absurd h (by simp)


def decS (i : Nat) : ByteArray := if i < 10 then ⟨#[(48 + i).toUInt8]⟩ else ⟨#[(48 + i / 10).toUInt8, (48 + i % 10).toUInt8]⟩
set_option maxHeartbeats 4000000 in
set_option maxRecDepth 100000 in
theorem small_any (i : Nat) (h : i < 24) (w : World) : Calls Tryd.prog 76 #[.int .i64 (i : Int)] w fun e w' => e = .returned (.string (decS i)) ∧ w' = w := by
  have : i = 0 ∨ i = 1 ∨ i = 2 ∨ i = 3 ∨ i = 4 ∨ i = 5 ∨ i = 6 ∨ i = 7 ∨ i = 8 ∨ i = 9 ∨ i = 10 ∨ i = 11 ∨ i = 12 ∨ i = 13 ∨ i = 14 ∨ i = 15 ∨ i = 16 ∨ i = 17 ∨ i = 18 ∨ i = 19 ∨ i = 20 ∨ i = 21 ∨ i = 22 ∨ i = 23 := by omega
  rcases this with rfl | rfl | rfl | rfl | rfl | rfl | rfl | rfl | rfl | rfl | rfl | rfl | rfl | rfl | rfl | rfl | rfl | rfl | rfl | rfl | rfl | rfl | rfl | rfl
  all_goals
    go_enter Tryd.func76, Tryd.ntmps76
    go_wp2
    go_ret
    exact ⟨rfl, rfl⟩
set_option maxHeartbeats 1000000 in
set_option maxRecDepth 100000 in
theorem formatInt_any (i : Nat) (h : i < 24) (w : World) : Calls Tryd.prog 75 #[.int .i64 (i : Int), .int .i64 10] w fun e w' => e = .returned (.string (decS i)) ∧ w' = w := by
  go_enter Tryd.func75, Tryd.ntmps75
  go_wp2_with (go_at_call 76; refine (small_any i h _).mono ?_; rintro e w' ⟨rfl, rfl⟩)
  go_ret
  exact ⟨rfl, rfl⟩
set_option maxRecDepth 100000 in
theorem itoaIn_any (i : Nat) (h : i < 24) (w : World) : Calls Tryd.prog 74 #[.int .i64 (i : Int)] w fun e w' => e = .returned (.string (decS i)) ∧ w' = w := by
  go_enter Tryd.func74, Tryd.ntmps74
  go_wp2_with (go_at_call 75; refine (formatInt_any i h _).mono ?_; rintro e w' ⟨rfl, rfl⟩)
  go_ret
  exact ⟨rfl, rfl⟩
def strconv_Itoa_72.f (a0 : Int) : Option ByteArray := if 0 ≤ a0 then (if a0 < 24 then some (decS a0.toNat) else none) else none
set_option maxRecDepth 100000 in
theorem strconv_Itoa_72.calls (a0 : Int) (r : ByteArray) (w : World) (h : strconv_Itoa_72.f a0 = some r) : Calls Tryd.prog 72 #[.int .i64 a0] w fun e w' => e = .returned (.string r) ∧ Drawn0 w w' := by
  unfold strconv_Itoa_72.f at h
  by_cases h0 : 0 ≤ a0
  · by_cases h1 : a0 < 24
    · rw [if_pos h0, if_pos h1] at h
      have e1 := Option.some.inj h
      subst e1
      obtain ⟨i, rfl⟩ := Int.eq_ofNat_of_zero_le h0
      clear h
      rw [Int.toNat_natCast]
      go_enter Tryd.func72, Tryd.ntmps72
      go_wp2_with (go_at_call 74; refine (itoaIn_any i (by omega) _).mono ?_; rintro e w' ⟨rfl, rfl⟩)
      go_ret
      exact ⟨rfl, ⟨0, rfl⟩⟩
    · rw [if_pos h0, if_neg h1] at h
      exact absurd h (by simp)
  · rw [if_neg h0] at h
    exact absurd h (by simp)


def leastI (r : Nat) : Int := if r = 0 then 0 else if r = 1 then 1 else if r = 2 then 3 else if r = 3 then 5 else if r = 4 then 7 else if r = 5 then 8 else 10
def ivL (p : Nat) (least semis : Int) : ByteArray := if semis < least then ⟨#[100]⟩ else if semis = least then (if p = 0 ∨ p = 3 ∨ p = 4 then ⟨#[112]⟩ else ⟨#[115]⟩) else if semis = least + 1 then (if p = 0 ∨ p = 3 ∨ p = 4 then ⟨#[97]⟩ else ⟨#[103]⟩) else ⟨#[97]⟩
def impl_intervalLetter.f (a0 a1 : Int) : Option ByteArray := if 0 ≤ a0 then (if a0 < 1000 then some (ivL (a0 % 7).toNat (leastI (a0 % 7).toNat + 12 * (a0 / 7)) a1) else none) else none
set_option maxHeartbeats 4000000 in
set_option maxRecDepth 100000 in
theorem impl_intervalLetter.calls (a0 a1 : Int) (r : ByteArray) (w : World) (hTI : TabI w) (h : impl_intervalLetter.f a0 a1 = some r) :
    Calls Tryd.prog 73 #[.int .i64 a0, .int .i64 a1] w fun e w' => e = .returned (.string r) ∧ Drawn0 w w' := by
  unfold impl_intervalLetter.f at h
  by_cases h0 : 0 ≤ a0
  · by_cases h1 : a0 < 1000
    · rw [if_pos h0, if_pos h1] at h
      have e1 := Option.some.inj h
      subst e1
      have hx : a0 % 7 = 0 ∨ a0 % 7 = 1 ∨ a0 % 7 = 2 ∨ a0 % 7 = 3 ∨ a0 % 7 = 4 ∨ a0 % 7 = 5 ∨ a0 % 7 = 6 := by omega
      have c0 : w.cell? ⟨1, 0, none⟩ = some (.int .i64 0) := hTI 0 _ rfl
      have c1 : w.cell? ⟨1, 1, none⟩ = some (.int .i64 1) := hTI 1 _ rfl
      have c2 : w.cell? ⟨1, 2, none⟩ = some (.int .i64 3) := hTI 2 _ rfl
      have c3 : w.cell? ⟨1, 3, none⟩ = some (.int .i64 5) := hTI 3 _ rfl
      have c4 : w.cell? ⟨1, 4, none⟩ = some (.int .i64 7) := hTI 4 _ rfl
      have c5 : w.cell? ⟨1, 5, none⟩ = some (.int .i64 8) := hTI 5 _ rfl
      have c6 : w.cell? ⟨1, 6, none⟩ = some (.int .i64 10) := hTI 6 _ rfl
      clear hTI h
      have htm : a0.tmod 7 = a0 % 7 := Int.tmod_eq_emod_of_nonneg h0
      have htd : a0.tdiv 7 = a0 / 7 := Int.tdiv_eq_ediv_of_nonneg h0
      obtain ⟨q, hq⟩ : ∃ q, q = a0 / 7 := ⟨_, rfl⟩
      have hq0 : 0 ≤ q := by omega
      have hq1 : q < 200 := by omega
      rw [← hq] at htd
      rw [← hq]
      rcases hx with hx | hx | hx | hx | hx | hx | hx
      all_goals
        rw [hx]
        rw [hx] at htm
        go_enter Tryd.func73, Tryd.ntmps73
        go_wp2
        all_goals
          go_ret
          refine ⟨congrArg (fun s => Ending.returned (Value.string s)) ?_, Drawn0.refl _⟩
          subst hq
          simp only [ivL, leastI]
          (repeat' split) <;> first | rfl | (exfalso; omega)
    · rw [if_pos h0, if_neg h1] at h
      exact absurd h (by simp)
  · rw [if_neg h0] at h
    exact absurd h (by simp)


end Go.Proofs.YtgiobmceippanaaDoor.G
