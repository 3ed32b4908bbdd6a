/- FnHexAll: for every list of at most 1048576 bytes, the law of HexAll, HexSyllable, HexKind and ToneNames holds of what the reference draws from it, and the list reads as before (longer lists the statement lets pass). The tables letterNames and syllableNames are tied to the program's text. No condition beyond the statement's own. -/
import Derived.Test.YtjefoedojglhpaaDoorHAx0
import Derived.Test.YtjefoedojglhpaaDoorHAx3
import Derived.Test.YtjefoedojglhpaaDoorHAx5
import Derived.Laws.Bits64
namespace Go.Proofs.YtjefoedojglhpaaDoor.PureFnHexAll
open Go.RowKit Go.Proofs.YtjefoedojglhpaaDoor.HA Go.Proofs.YtjefoedojglhpaaDoorW.PrintWords Go.Proofs.YtjefoedojglhpaaDoorW.PrintLast Go.Proofs.YtjefoedojglhpaaDoorW.PrintMore 
set_option linter.unusedVariables false
set_option linter.unusedSimpArgs false
theorem w1 {i : Nat} (h : i < 4611686018427387904) : wrap64 ((i : Int) + 1) = ((i + 1 : Nat) : Int) := by
  unfold wrap64
  omega
theorem w0 {i : Int} (h : -9223372036854775808 ≤ i) (h' : i ≤ 9223372036854775807) : wrap64 i = i := by
  unfold wrap64
  omega
theorem rd_at (xs : List Int) (i : Nat) (h : i < xs.length) : rd xs (i : Int) = xs[i] := by
  simp [rd, List.getD_eq_getElem?_getD, h]
theorem xor_nn (a b : Int) (ha : 0 ≤ a) (ha' : a < 4611686018427387904) (hb : 0 ≤ b) (hb' : b < 4611686018427387904) : 0 ≤ Go.bits .xor .i64 a b := by
  obtain ⟨x, rfl⟩ := Int.eq_ofNat_of_zero_le ha
  obtain ⟨y, rfl⟩ := Int.eq_ofNat_of_zero_le hb
  have hx : x ^^^ y < 2 ^ 62 := Nat.xor_lt_two_pow (by omega) (by omega)
  have h1 : (BitVec.ofInt 64 (x : Int)).toNat = x := by
    rw [BitVec.ofInt_natCast, BitVec.toNat_ofNat]; exact Nat.mod_eq_of_lt (by omega)
  have h2 : (BitVec.ofInt 64 (y : Int)).toNat = y := by
    rw [BitVec.ofInt_natCast, BitVec.toNat_ofNat]; exact Nat.mod_eq_of_lt (by omega)
  have e : Go.bits .xor .i64 (x : Int) (y : Int) = IntKind.i64.wrap (((x ^^^ y : Nat)) : Int) := by
    show IntKind.i64.wrap ((BitVec.ofInt 64 (x : Int) ^^^ BitVec.ofInt 64 (y : Int)).toNat : Int) = _
    rw [BitVec.toNat_xor, h1, h2]
  rw [e, IntWalk.i64_in _ (by omega)]
  omega
/-- A list of bytes. -/
def Bytes (l : List Int) : Prop := ∀ n ∈ l, 0 ≤ n ∧ n ≤ 255
theorem rd_byte {l : List Int} (h : Bytes l) (i : Int) (h0 : 0 ≤ i) (h1 : i < (l.length : Int)) : 0 ≤ rd l i ∧ rd l i ≤ 255 := by
  obtain ⟨n, rfl⟩ := Int.eq_ofNat_of_zero_le h0
  have hn : n < l.length := by omega
  rw [rd_at l n hn]
  exact h _ (List.getElem_mem hn)
theorem tm_bd (a n : Int) (ha : 0 ≤ a) (hn : 0 < n) : 0 ≤ Int.tmod a n ∧ Int.tmod a n < n := by
  rw [Int.tmod_eq_emod_of_nonneg ha]
  exact ⟨Int.emod_nonneg _ (by omega), Int.emod_lt_of_pos _ hn⟩
theorem td_bd (a n : Int) (ha : 0 ≤ a) (hn : 0 < n) : 0 ≤ Int.tdiv a n ∧ Int.tdiv a n ≤ a := by
  rw [Int.tdiv_eq_ediv_of_nonneg ha]
  exact ⟨Int.ediv_nonneg ha (by omega), Int.ediv_le_self _ ha⟩
theorem pick_some (l : List Int) (hl : Bytes l) (hn : l.length ≤ 2000) (p n : Int) (hp : 0 ≤ p) (hp' : p ≤ 1000000) (h1 : 1 ≤ n) (h2 : n ≤ 1000000) :
    ∃ v, 0 ≤ v ∧ v < n ∧ ∀ k, spec_l6Rd_pick.f (k + 1) l p n = some (v, p + 1) := by
  unfold spec_l6Rd_pick.f
  simp only [spec_l6Rd_pick.j0]
  rw [if_neg (show ¬ n < 1 by omega), w0 (i := p + 1) (by omega) (by omega), show p + 1 - 1 = p by omega, w0 (i := p) (by omega) (by omega)]
  by_cases hl0 : l.length = 0
  · refine ⟨0, by omega, by omega, fun k => ?_⟩
    rw [if_pos (show ((l.length : Int) == 0) = true by rw [hl0]; rfl)]
  · rw [if_neg (show ¬ (((l.length : Int) == 0) = true) from fun h => hl0 (by have := beq_iff_eq.1 h; omega))]
    have hlp : (0 : Int) < (l.length : Int) := by omega
    by_cases hpl : p < (l.length : Int)
    · obtain ⟨b0, b1⟩ := rd_byte hl p hp hpl
      rw [if_pos hpl, if_pos hp, if_neg (show ¬ n = 0 by omega), w0 (i := rd l p) (by omega) (by omega)]
      obtain ⟨t0, t1⟩ := tm_bd (rd l p) n b0 (by omega)
      exact ⟨_, t0, t1, fun _ => rfl⟩
    · rw [if_neg hpl, if_neg (show ¬ (l.length : Int) = 0 by omega), w0 (i := p * 7) (by omega) (by omega), w0 (i := p * 7 + 3) (by omega) (by omega)]
      obtain ⟨i0, i1⟩ := tm_bd p (l.length : Int) hp hlp
      obtain ⟨j0, j1⟩ := tm_bd (p * 7 + 3) (l.length : Int) (by omega) hlp
      obtain ⟨q0, q1⟩ := td_bd p (l.length : Int) hp hlp
      rw [if_pos i0, if_pos i1, if_pos j0, if_pos j1, if_neg (show ¬ n = 0 by omega)]
      obtain ⟨a0, a1⟩ := rd_byte hl _ i0 i1
      obtain ⟨b0, b1⟩ := rd_byte hl _ j0 j1
      generalize rd l (Int.tmod p (l.length : Int)) = a at a0 a1 ⊢
      generalize rd l (Int.tmod (p * 7 + 3) (l.length : Int)) = b at b0 b1 ⊢
      generalize Int.tdiv p (l.length : Int) = q at q0 q1 ⊢
      simp (disch := omega) only [w0]
      have x0 : 0 ≤ a * 131 + b * 1117 + p * 29 + q * 53 := by omega
      obtain ⟨d0, d1⟩ := td_bd (a * 131 + b * 1117 + p * 29 + q * 53) 64 x0 (by omega)
      rw [w0 (i := Int.tdiv (a * 131 + b * 1117 + p * 29 + q * 53) 64) (by omega) (by omega)]
      obtain ⟨t0, t1⟩ := tm_bd (Go.bits .xor .i64 (a * 131 + b * 1117 + p * 29 + q * 53) (Int.tdiv (a * 131 + b * 1117 + p * 29 + q * 53) 64)) n (xor_nn _ _ x0 (by omega) d0 (by omega)) (by omega)
      exact ⟨_, t0, t1, fun _ => rfl⟩
/-- What a reader's pick answers. -/
def pk (l : List Int) (p n : Int) : Int := ((spec_l6Rd_pick.f 1 l p n).getD (0, 0)).1
structure Rdr (l : List Int) : Prop where
  bytes : Bytes l
  len : l.length ≤ 2000
theorem pk_f {l : List Int} (h : Rdr l) (p n : Int) (k : Nat) (hp : 0 ≤ p) (hp' : p ≤ 1000000) (h1 : 1 ≤ n) (h2 : n ≤ 1000000) (hk : 1 ≤ k) : spec_l6Rd_pick.f k l p n = some (pk l p n, p + 1) := by
  obtain ⟨v, _, _, hv⟩ := pick_some l h.bytes h.len p n hp hp' h1 h2
  unfold pk
  rw [hv 0]
  obtain ⟨k, rfl⟩ : ∃ m, k = m + 1 := ⟨k - 1, by omega⟩
  rw [hv k]
  rfl
theorem pk_bd {l : List Int} (h : Rdr l) (p n : Int) (hp : 0 ≤ p) (hp' : p ≤ 1000000) (h1 : 1 ≤ n) (h2 : n ≤ 1000000) : 0 ≤ pk l p n ∧ pk l p n < n := by
  obtain ⟨v, h3, h4, hv⟩ := pick_some l h.bytes h.len p n hp hp' h1 h2
  unfold pk
  rw [hv 0]
  exact ⟨h3, h4⟩
theorem open_f (l : List Int) (hl : Bytes l) : ∃ s, spec_l6Open.f l = some (s, 0) ∧ Rdr s := by
  unfold spec_l6Open.f
  by_cases h : (l.length : Int) > 2000
  · rw [if_pos h, if_pos (by omega)]
    exact ⟨_, rfl, ⟨fun n hn => hl n (List.mem_of_mem_take hn), by simp; omega⟩⟩
  · rw [if_neg h]
    exact ⟨_, rfl, ⟨hl, by omega⟩⟩
theorem bytes_of {l : List Int} (h : ∀ n ∈ l, (Lit.int .u8 n).wf = true) : Bytes l := fun n hn => by
  have := h n hn
  simp [Lit.wf, IntKind.min, IntKind.max, IntKind.signed, IntKind.bits] at this
  omega
theorem letter_f (a : Int) : spec_l1Letter.f a = some (Int.tmod a 7) := rfl
theorem tone_d {l : List Int} (h : Rdr l) (p : Int) (hp : 0 ≤ p) (hp' : p ≤ 100000) : ∃ t b q, -1 ≤ t ∧ t ≤ 21 ∧ p ≤ q ∧ q ≤ p + 3 ∧ ∀ k, 1 ≤ k → spec_l91Tone.f k l p = some (t, b, q) := by
  unfold spec_l91Tone.f
  by_cases h0 : pk l p 40 = 0
  · obtain ⟨v0, v1⟩ := pk_bd h (p + 1) 4 (by omega) (by omega) (by omega) (by omega)
    have hr : -1 ≤ rd ([-1, 21, 20, 0] : List Int) (pk l (p + 1) 4) ∧ rd ([-1, 21, 20, 0] : List Int) (pk l (p + 1) 4) ≤ 21 := by
      obtain ⟨n, hn⟩ := Int.eq_ofNat_of_zero_le v0
      rw [hn]
      have key : ∀ n : Nat, n < 4 → -1 ≤ rd ([-1, 21, 20, 0] : List Int) (n : Int) ∧ rd ([-1, 21, 20, 0] : List Int) (n : Int) ≤ 21 := by decide +kernel
      exact key n (by omega)
    refine ⟨rd ([-1, 21, 20, 0] : List Int) (pk l (p + 1) 4), false, p + 1 + 1, hr.1, hr.2, by omega, by omega, fun k hk => ?_⟩
    rw [pk_f h p 40 k (by omega) (by omega) (by omega) (by omega) hk]
    simp only [Option.bind_some]
    rw [if_pos h0, pk_f h (p + 1) 4 k (by omega) (by omega) (by omega) (by omega) hk]
    simp only [Option.bind_some]
    rw [if_pos v0, if_pos (by simpa using v1)]
  · by_cases h1 : pk l p 40 = 1
    · obtain ⟨v0, v1⟩ := pk_bd h (p + 1) 21 (by omega) (by omega) (by omega) (by omega)
      refine ⟨pk l (p + 1) 21, true, p + 1 + 1, by omega, by omega, by omega, by omega, fun k hk => ?_⟩
      rw [pk_f h p 40 k (by omega) (by omega) (by omega) (by omega) hk]
      simp only [Option.bind_some]
      rw [if_neg h0, if_pos h1, pk_f h (p + 1) 21 k (by omega) (by omega) (by omega) (by omega) hk]
      rfl
    · obtain ⟨v0, v1⟩ := pk_bd h (p + 1) 11 (by omega) (by omega) (by omega) (by omega)
      by_cases h2 : Int.tmod (3 + pk l (p + 1) 11) 7 = 2
      · refine ⟨3 + pk l (p + 1) 11, pk l (p + 1 + 1) 2 == 0, p + 1 + 1 + 1, by omega, by omega, by omega, by omega, fun k hk => ?_⟩
        rw [pk_f h p 40 k (by omega) (by omega) (by omega) (by omega) hk]
        simp only [Option.bind_some]
        rw [if_neg h0, if_neg h1, pk_f h (p + 1) 11 k (by omega) (by omega) (by omega) (by omega) hk]
        simp only [Option.bind_some]
        rw [w0 (i := 3 + pk l (p + 1) 11) (by omega) (by omega), letter_f]
        simp only [Option.bind_some]
        rw [if_pos h2, pk_f h (p + 1 + 1) 2 k (by omega) (by omega) (by omega) (by omega) hk]
        rfl
      · refine ⟨3 + pk l (p + 1) 11, false, p + 1 + 1, by omega, by omega, by omega, by omega, fun k hk => ?_⟩
        rw [pk_f h p 40 k (by omega) (by omega) (by omega) (by omega) hk]
        simp only [Option.bind_some]
        rw [if_neg h0, if_neg h1, pk_f h (p + 1) 11 k (by omega) (by omega) (by omega) (by omega) hk]
        simp only [Option.bind_some]
        rw [w0 (i := 3 + pk l (p + 1) 11) (by omega) (by omega), letter_f]
        simp only [Option.bind_some]
        rw [if_neg h2]
theorem hexall_fin : ∀ b : Bool, ∀ n : Nat, n < 23 → ((impl_HexAll.f ((n : Int) - 1) b).bind fun t162 => ((spec_HexAll.f 120 ((n : Int) - 1) b).bind fun t165 => ((laws_sameInts.f 120 t162 t165).bind fun t168 => (if t168 = true then (laws_FnHexAll.j0 120 t162 t165 ((t162.length : Int) == 0) ((n : Int) - 1) b) else (laws_FnHexAll.j0 120 t162 t165 true ((n : Int) - 1) b))))) = some true := by decide +kernel
theorem FnHexAll : ∀ (l0 : List Int), l0.length ≤ maxLen → l0.length * 1 ≤ 140737488351232 → (∀ n ∈ l0, (Lit.int .u8 n).wf = true) → ∃ k, laws_FnHexAll.f k l0 = some true := by
  intro l0 z1 z2 hw
  refine ⟨120, ?_⟩
  unfold laws_FnHexAll.f
  by_cases h : (l0.length : Int) > 1048576
  · rw [if_pos h]
  · rw [if_neg h]
    obtain ⟨o, ho, hR⟩ := open_f l0 (bytes_of hw)
    obtain ⟨t, b, q, t0, t1, q0, q1, hq⟩ := tone_d hR 0 (by omega) (by omega)
    have hd : spec_DrawHexAll.f 120 l0 = some (t, b) := by
      unfold spec_DrawHexAll.f
      rw [ho, Option.bind_some]
      dsimp only
      rw [hq 120 (by omega), Option.bind_some]
    rw [hd, Option.bind_some]
    dsimp only
    obtain ⟨n, rfl⟩ : ∃ n : Nat, t = (n : Int) - 1 := ⟨(t + 1).toNat, by omega⟩
    exact hexall_fin b n (by omega)

end Go.Proofs.YtjefoedojglhpaaDoor.PureFnHexAll
