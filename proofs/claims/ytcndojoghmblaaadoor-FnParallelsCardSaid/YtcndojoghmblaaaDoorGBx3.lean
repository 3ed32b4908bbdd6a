-- Made by this session's gprint.py out of the translation. Not trusted: Lean checks it.
import Derived.Test.YtcndojoghmblaaaDoorGBx0
namespace Go.Proofs.YtcndojoghmblaaaDoor.GB
open Go.RowKit Go.Proofs.YtcndojoghmblaaaDoorW.PrintWords Go.Proofs.YtcndojoghmblaaaDoorW.PrintLast Go.Proofs.YtcndojoghmblaaaDoorW.PrintMore
attribute [local go_sem] max2_int min2_int max_two min_two max_three min_three max_four min_four   -- for this text's walks alone
set_option linter.unusedVariables false
set_option linter.unusedSimpArgs false

def letHt (r : Nat) : Int := if r = 0 then 0 else if r = 1 then 2 else if r = 2 then 4 else if r = 3 then 5 else if r = 4 then 7 else if r = 5 then 9 else 10
def impl_Tone_height.f (a0 : Int) (b0 : Bool) : Option Int := if 0 ≤ a0 then (if a0 < 1000 then some (letHt (a0 % 7).toNat + 12 * (a0 / 7) - (if b0 = true then 1 else 0)) else none) else none
set_option maxHeartbeats 2000000 in
set_option maxRecDepth 100000 in
theorem impl_Tone_height.calls (a0 : Int) (b0 : Bool) (r : Int) (w : World) (hTH : TabH w) (h : impl_Tone_height.f a0 b0 = some r) :
  Calls Tryd.prog 77 #[.agg #[.int .i64 a0, .bool b0]] w fun e w' => e = .returned (.int .i64 r) ∧ Below w.heap.size w w' := by
 have hu2 := Tryd.underlying30
 have hT := hTH.alloc (.cells #[.int .i64 a0, .bool b0] 30)
 have HB0 := Aside0.mk (below_alloc (Below.refl w.heap.size w) (.cells #[.int .i64 a0, .bool b0] 30))
 unfold impl_Tone_height.f at h
 by_cases h0 : 0 ≤ a0
 ·by_cases h1 : a0 < 1000
  ·rw [if_pos h0, if_pos h1] at h
   have e1 := Option.some.inj h
   subst e1
   have hx : a0 % 7 = 0 ∨ a0 % 7 = 1 ∨ a0 % 7 = 2 ∨ a0 % 7 = 3 ∨ a0 % 7 = 4 ∨ a0 % 7 = 5 ∨ a0 % 7 = 6 := by omega
   have c0 : (w.alloc (.cells #[.int .i64 a0, .bool b0] 30)).cell? ⟨1, 0, none⟩ = some (.int .i64 0) := hT 0 _ rfl
   have c1 : (w.alloc (.cells #[.int .i64 a0, .bool b0] 30)).cell? ⟨1, 1, none⟩ = some (.int .i64 2) := hT 1 _ rfl
   have c2 : (w.alloc (.cells #[.int .i64 a0, .bool b0] 30)).cell? ⟨1, 2, none⟩ = some (.int .i64 4) := hT 2 _ rfl
   have c3 : (w.alloc (.cells #[.int .i64 a0, .bool b0] 30)).cell? ⟨1, 3, none⟩ = some (.int .i64 5) := hT 3 _ rfl
   have c4 : (w.alloc (.cells #[.int .i64 a0, .bool b0] 30)).cell? ⟨1, 4, none⟩ = some (.int .i64 7) := hT 4 _ rfl
   have c5 : (w.alloc (.cells #[.int .i64 a0, .bool b0] 30)).cell? ⟨1, 5, none⟩ = some (.int .i64 9) := hT 5 _ rfl
   have c6 : (w.alloc (.cells #[.int .i64 a0, .bool b0] 30)).cell? ⟨1, 6, none⟩ = some (.int .i64 10) := hT 6 _ rfl
   clear hT hTH h
   have k0 : (w.alloc (.cells #[.int .i64 a0, .bool b0] 30)).cell? ⟨w.heap.size, 0, none⟩ = some (.int .i64 a0) := blk_cell (blk_new w _) 0
   have k1 : (w.alloc (.cells #[.int .i64 a0, .bool b0] 30)).cell? ⟨w.heap.size, 1, none⟩ = some (.bool b0) := blk_cell (blk_new w _) 1
   have htm : a0.tmod 7 = a0 % 7 := Int.tmod_eq_emod_of_nonneg h0
   have htd : a0.tdiv 7 = a0 / 7 := Int.tdiv_eq_ediv_of_nonneg h0
   obtain ⟨q, hq⟩ : ∃ q, q = a0 / 7 := ⟨_, rfl⟩
   have hq0 : 0 ≤ q := by omega
   have hq1 : q < 200 := by omega
   rw [← hq] at htd
   rw [← hq]
   rcases hx with hx | hx | hx | hx | hx | hx | hx
   all_goals
    rw [hx]
    rw [hx] at htm
    have w1 : IntKind.i64.wrap (12 * q) = 12 * q := IntWalk.i64_in _ (by omega)
    have w2 : IntKind.i64.wrap (letHt (Int.toNat (a0 % 7)) + 12 * q) = letHt (Int.toNat (a0 % 7)) + 12 * q := by
     rw [hx]
     exact IntWalk.i64_in _ (by simp [letHt]; omega)
    have w3 : -9223372036854775808 ≤ letHt (Int.toNat (a0 % 7)) + 12 * q - 1 := by
     rw [hx]
     simp [letHt]
     omega
    rw [hx] at w2 w3
    obtain ⟨S, hS⟩ : ∃ S, S = letHt (Int.toNat (a0 % 7)) + 12 * q := ⟨_, rfl⟩
    rw [hx] at hS
    rw [← hS] at w2 w3
    rw [← hS]
    have w4 : S ≤ 100000 := by
     rw [hS]
     simp [letHt]
     omega
    cases b0
    all_goals
     go_enter Tryd.func77, Tryd.ntmps77
     go_wp2_with fail
     go_quiet (fail)
     go_wp2
     all_goals first
      | (exact absurd ‹false = true› (by decide))
      | (exact absurd rfl ‹¬ true = true›)
      | (go_ret; refine ⟨?_, pw_below_drewN HB0.out _⟩; refine congrArg Ending.returned (congrArg (Value.int IntKind.i64) ?_); first | rfl | (simp [letHt]; done) | (simp [letHt]; omega))
  ·rw [if_pos h0, if_neg h1] at h
   exact absurd h (by simp)
 ·rw [if_neg h0] at h
  exact absurd h (by simp)


def decS (i : Nat) : ByteArray := if i < 10 then ⟨#[(48 + i).toUInt8]⟩ else ⟨#[(48 + i / 10).toUInt8, (48 + i % 10).toUInt8]⟩
set_option maxHeartbeats 4000000 in
set_option maxRecDepth 100000 in
theorem small_any (i : Nat) (h : i < 24) (w : World) : Calls Tryd.prog 168 #[.int .i64 (i : Int)] w fun e w' => e = .returned (.string (decS i)) ∧ w' = w := by
 have : i = 0 ∨ i = 1 ∨ i = 2 ∨ i = 3 ∨ i = 4 ∨ i = 5 ∨ i = 6 ∨ i = 7 ∨ i = 8 ∨ i = 9 ∨ i = 10 ∨ i = 11 ∨ i = 12 ∨ i = 13 ∨ i = 14 ∨ i = 15 ∨ i = 16 ∨ i = 17 ∨ i = 18 ∨ i = 19 ∨ i = 20 ∨ i = 21 ∨ i = 22 ∨ i = 23 := by omega
 rcases this with rfl | rfl | rfl | rfl | rfl | rfl | rfl | rfl | rfl | rfl | rfl | rfl | rfl | rfl | rfl | rfl | rfl | rfl | rfl | rfl | rfl | rfl | rfl | rfl
 all_goals
  go_enter Tryd.func168, Tryd.ntmps168
  go_wp2
  go_ret
  exact ⟨rfl, rfl⟩
set_option maxHeartbeats 1000000 in
set_option maxRecDepth 100000 in
theorem formatInt_any (i : Nat) (h : i < 24) (w : World) : Calls Tryd.prog 158 #[.int .i64 (i : Int), .int .i64 10] w fun e w' => e = .returned (.string (decS i)) ∧ w' = w := by
 go_enter Tryd.func158, Tryd.ntmps158
 go_wp2_with (go_at_call 168; refine (small_any i h _).mono ?_; rintro e w' ⟨rfl, rfl⟩)
 go_ret
 exact ⟨rfl, rfl⟩
set_option maxRecDepth 100000 in
theorem itoaIn_any (i : Nat) (h : i < 24) (w : World) : Calls Tryd.prog 128 #[.int .i64 (i : Int)] w fun e w' => e = .returned (.string (decS i)) ∧ w' = w := by
 go_enter Tryd.func128, Tryd.ntmps128
 go_wp2_with (go_at_call 158; refine (formatInt_any i h _).mono ?_; rintro e w' ⟨rfl, rfl⟩)
 go_ret
 exact ⟨rfl, rfl⟩
def strconv_Itoa_78.f (a0 : Int) : Option ByteArray := if 0 ≤ a0 then (if a0 < 24 then some (decS a0.toNat) else none) else none
set_option maxRecDepth 100000 in
theorem strconv_Itoa_78.calls (a0 : Int) (r : ByteArray) (w : World) (h : strconv_Itoa_78.f a0 = some r) : Calls Tryd.prog 78 #[.int .i64 a0] w fun e w' => e = .returned (.string r) ∧ Drawn0 w w' := by
 unfold strconv_Itoa_78.f at h
 by_cases h0 : 0 ≤ a0
 ·by_cases h1 : a0 < 24
  ·rw [if_pos h0, if_pos h1] at h
   have e1 := Option.some.inj h
   subst e1
   obtain ⟨i, rfl⟩ := Int.eq_ofNat_of_zero_le h0
   clear h
   rw [Int.toNat_natCast]
   go_enter Tryd.func78, Tryd.ntmps78
   go_wp2_with (go_at_call 128; refine (itoaIn_any i (by omega) _).mono ?_; rintro e w' ⟨rfl, rfl⟩)
   go_ret
   exact ⟨rfl, ⟨0, rfl⟩⟩
  ·rw [if_pos h0, if_neg h1] at h
   exact absurd h (by simp)
 ·rw [if_neg h0] at h
  exact absurd h (by simp)


def leastI (r : Nat) : Int := if r = 0 then 0 else if r = 1 then 1 else if r = 2 then 3 else if r = 3 then 5 else if r = 4 then 7 else if r = 5 then 8 else 10
def ivL (p : Nat) (least semis : Int) : ByteArray := if semis < least then ⟨#[100]⟩ else if semis = least then (if p = 0 ∨ p = 3 ∨ p = 4 then ⟨#[112]⟩ else ⟨#[115]⟩) else if semis = least + 1 then (if p = 0 ∨ p = 3 ∨ p = 4 then ⟨#[97]⟩ else ⟨#[103]⟩) else ⟨#[97]⟩
def impl_intervalLetter.f (a0 a1 : Int) : Option ByteArray := if 0 ≤ a0 then (if a0 < 1000 then some (ivL (a0 % 7).toNat (leastI (a0 % 7).toNat + 12 * (a0 / 7)) a1) else none) else none
set_option maxHeartbeats 4000000 in
set_option maxRecDepth 100000 in
theorem impl_intervalLetter.calls (a0 a1 : Int) (r : ByteArray) (w : World) (hTI : TabI w) (h : impl_intervalLetter.f a0 a1 = some r) :
  Calls Tryd.prog 79 #[.int .i64 a0, .int .i64 a1] w fun e w' => e = .returned (.string r) ∧ Drawn0 w w' := by
 unfold impl_intervalLetter.f at h
 by_cases h0 : 0 ≤ a0
 ·by_cases h1 : a0 < 1000
  ·rw [if_pos h0, if_pos h1] at h
   have e1 := Option.some.inj h
   subst e1
   have hx : a0 % 7 = 0 ∨ a0 % 7 = 1 ∨ a0 % 7 = 2 ∨ a0 % 7 = 3 ∨ a0 % 7 = 4 ∨ a0 % 7 = 5 ∨ a0 % 7 = 6 := by omega
   have c0 : w.cell? ⟨2, 0, none⟩ = some (.int .i64 0) := hTI 0 _ rfl
   have c1 : w.cell? ⟨2, 1, none⟩ = some (.int .i64 1) := hTI 1 _ rfl
   have c2 : w.cell? ⟨2, 2, none⟩ = some (.int .i64 3) := hTI 2 _ rfl
   have c3 : w.cell? ⟨2, 3, none⟩ = some (.int .i64 5) := hTI 3 _ rfl
   have c4 : w.cell? ⟨2, 4, none⟩ = some (.int .i64 7) := hTI 4 _ rfl
   have c5 : w.cell? ⟨2, 5, none⟩ = some (.int .i64 8) := hTI 5 _ rfl
   have c6 : w.cell? ⟨2, 6, none⟩ = some (.int .i64 10) := hTI 6 _ rfl
   clear hTI h
   have htm : a0.tmod 7 = a0 % 7 := Int.tmod_eq_emod_of_nonneg h0
   have htd : a0.tdiv 7 = a0 / 7 := Int.tdiv_eq_ediv_of_nonneg h0
   obtain ⟨q, hq⟩ : ∃ q, q = a0 / 7 := ⟨_, rfl⟩
   have hq0 : 0 ≤ q := by omega
   have hq1 : q < 200 := by omega
   rw [← hq] at htd
   rw [← hq]
   rcases hx with hx | hx | hx | hx | hx | hx | hx
   all_goals
    rw [hx]
    rw [hx] at htm
    go_enter Tryd.func79, Tryd.ntmps79
    go_wp2
    all_goals
     go_ret
     refine ⟨congrArg (fun s => Ending.returned (Value.string s)) ?_, Drawn0.refl _⟩
     subst hq
     simp only [ivL, leastI]
     (repeat' split) <;> first | rfl | (exfalso; omega)
  ·rw [if_pos h0, if_neg h1] at h
   exact absurd h (by simp)
 ·rw [if_neg h0] at h
  exact absurd h (by simp)


end Go.Proofs.YtcndojoghmblaaaDoor.GB
