/- FnHexKind: for every list of at most 1048576 bytes, the law of HexKind and HexTone holds of what the reference draws from it, and the list reads as before (longer lists the statement lets pass). The table letterNames is tied to the program's text. No condition beyond the statement's own. -/
import Derived.Test.YtjefoedojglhpaaDoorHKx0
import Derived.Test.YtjefoedojglhpaaDoorHKx2
import Derived.Test.YtjefoedojglhpaaDoorHKx3
import Derived.Test.YtjefoedojglhpaaDoorHKx4
import Derived.Laws.Bits64
namespace Go.Proofs.YtjefoedojglhpaaDoor.PureFnHexKind
open Go.RowKit Go.Proofs.YtjefoedojglhpaaDoor.HK Go.Proofs.YtjefoedojglhpaaDoorW.PrintWords Go.Proofs.YtjefoedojglhpaaDoorW.PrintLast Go.Proofs.YtjefoedojglhpaaDoorW.PrintMore 
set_option linter.unusedVariables false
set_option linter.unusedSimpArgs false
theorem w1 {i : Nat} (h : i < 4611686018427387904) : wrap64 ((i : Int) + 1) = ((i + 1 : Nat) : Int) := by
  unfold wrap64
  omega
theorem w0 {i : Int} (h : -9223372036854775808 ≤ i) (h' : i ≤ 9223372036854775807) : wrap64 i = i := by
  unfold wrap64
  omega
theorem rd_at (xs : List Int) (i : Nat) (h : i < xs.length) : rd xs (i : Int) = xs[i] := by
  simp [rd, List.getD_eq_getElem?_getD, h]
theorem xor_nn (a b : Int) (ha : 0 ≤ a) (ha' : a < 4611686018427387904) (hb : 0 ≤ b) (hb' : b < 4611686018427387904) : 0 ≤ Go.bits .xor .i64 a b := by
  obtain ⟨x, rfl⟩ := Int.eq_ofNat_of_zero_le ha
  obtain ⟨y, rfl⟩ := Int.eq_ofNat_of_zero_le hb
  have hx : x ^^^ y < 2 ^ 62 := Nat.xor_lt_two_pow (by omega) (by omega)
  have h1 : (BitVec.ofInt 64 (x : Int)).toNat = x := by
    rw [BitVec.ofInt_natCast, BitVec.toNat_ofNat]; exact Nat.mod_eq_of_lt (by omega)
  have h2 : (BitVec.ofInt 64 (y : Int)).toNat = y := by
    rw [BitVec.ofInt_natCast, BitVec.toNat_ofNat]; exact Nat.mod_eq_of_lt (by omega)
  have e : Go.bits .xor .i64 (x : Int) (y : Int) = IntKind.i64.wrap (((x ^^^ y : Nat)) : Int) := by
    show IntKind.i64.wrap ((BitVec.ofInt 64 (x : Int) ^^^ BitVec.ofInt 64 (y : Int)).toNat : Int) = _
    rw [BitVec.toNat_xor, h1, h2]
  rw [e, IntWalk.i64_in _ (by omega)]
  omega
/-- A list of bytes. -/
def Bytes (l : List Int) : Prop := ∀ n ∈ l, 0 ≤ n ∧ n ≤ 255
theorem rd_byte {l : List Int} (h : Bytes l) (i : Int) (h0 : 0 ≤ i) (h1 : i < (l.length : Int)) : 0 ≤ rd l i ∧ rd l i ≤ 255 := by
  obtain ⟨n, rfl⟩ := Int.eq_ofNat_of_zero_le h0
  have hn : n < l.length := by omega
  rw [rd_at l n hn]
  exact h _ (List.getElem_mem hn)
theorem tm_bd (a n : Int) (ha : 0 ≤ a) (hn : 0 < n) : 0 ≤ Int.tmod a n ∧ Int.tmod a n < n := by
  rw [Int.tmod_eq_emod_of_nonneg ha]
  exact ⟨Int.emod_nonneg _ (by omega), Int.emod_lt_of_pos _ hn⟩
theorem td_bd (a n : Int) (ha : 0 ≤ a) (hn : 0 < n) : 0 ≤ Int.tdiv a n ∧ Int.tdiv a n ≤ a := by
  rw [Int.tdiv_eq_ediv_of_nonneg ha]
  exact ⟨Int.ediv_nonneg ha (by omega), Int.ediv_le_self _ ha⟩
theorem pick_some (l : List Int) (hl : Bytes l) (hn : l.length ≤ 2000) (p n : Int) (hp : 0 ≤ p) (hp' : p ≤ 1000000) (h1 : 1 ≤ n) (h2 : n ≤ 1000000) :
    ∃ v, 0 ≤ v ∧ v < n ∧ ∀ k, spec_l6Rd_pick.f (k + 1) l p n = some (v, p + 1) := by
  unfold spec_l6Rd_pick.f
  simp only [spec_l6Rd_pick.j0]
  rw [if_neg (show ¬ n < 1 by omega), w0 (i := p + 1) (by omega) (by omega), show p + 1 - 1 = p by omega, w0 (i := p) (by omega) (by omega)]
  by_cases hl0 : l.length = 0
  · refine ⟨0, by omega, by omega, fun k => ?_⟩
    rw [if_pos (show ((l.length : Int) == 0) = true by rw [hl0]; rfl)]
  · rw [if_neg (show ¬ (((l.length : Int) == 0) = true) from fun h => hl0 (by have := beq_iff_eq.1 h; omega))]
    have hlp : (0 : Int) < (l.length : Int) := by omega
    by_cases hpl : p < (l.length : Int)
    · obtain ⟨b0, b1⟩ := rd_byte hl p hp hpl
      rw [if_pos hpl, if_pos hp, if_neg (show ¬ n = 0 by omega), w0 (i := rd l p) (by omega) (by omega)]
      obtain ⟨t0, t1⟩ := tm_bd (rd l p) n b0 (by omega)
      exact ⟨_, t0, t1, fun _ => rfl⟩
    · rw [if_neg hpl, if_neg (show ¬ (l.length : Int) = 0 by omega), w0 (i := p * 7) (by omega) (by omega), w0 (i := p * 7 + 3) (by omega) (by omega)]
      obtain ⟨i0, i1⟩ := tm_bd p (l.length : Int) hp hlp
      obtain ⟨j0, j1⟩ := tm_bd (p * 7 + 3) (l.length : Int) (by omega) hlp
      obtain ⟨q0, q1⟩ := td_bd p (l.length : Int) hp hlp
      rw [if_pos i0, if_pos i1, if_pos j0, if_pos j1, if_neg (show ¬ n = 0 by omega)]
      obtain ⟨a0, a1⟩ := rd_byte hl _ i0 i1
      obtain ⟨b0, b1⟩ := rd_byte hl _ j0 j1
      generalize rd l (Int.tmod p (l.length : Int)) = a at a0 a1 ⊢
      generalize rd l (Int.tmod (p * 7 + 3) (l.length : Int)) = b at b0 b1 ⊢
      generalize Int.tdiv p (l.length : Int) = q at q0 q1 ⊢
      simp (disch := omega) only [w0]
      have x0 : 0 ≤ a * 131 + b * 1117 + p * 29 + q * 53 := by omega
      obtain ⟨d0, d1⟩ := td_bd (a * 131 + b * 1117 + p * 29 + q * 53) 64 x0 (by omega)
      rw [w0 (i := Int.tdiv (a * 131 + b * 1117 + p * 29 + q * 53) 64) (by omega) (by omega)]
      obtain ⟨t0, t1⟩ := tm_bd (Go.bits .xor .i64 (a * 131 + b * 1117 + p * 29 + q * 53) (Int.tdiv (a * 131 + b * 1117 + p * 29 + q * 53) 64)) n (xor_nn _ _ x0 (by omega) d0 (by omega)) (by omega)
      exact ⟨_, t0, t1, fun _ => rfl⟩
/-- What a reader's pick answers. -/
def pk (l : List Int) (p n : Int) : Int := ((spec_l6Rd_pick.f 1 l p n).getD (0, 0)).1
structure Rdr (l : List Int) : Prop where
  bytes : Bytes l
  len : l.length ≤ 2000
theorem pk_f {l : List Int} (h : Rdr l) (p n : Int) (k : Nat) (hp : 0 ≤ p) (hp' : p ≤ 1000000) (h1 : 1 ≤ n) (h2 : n ≤ 1000000) (hk : 1 ≤ k) : spec_l6Rd_pick.f k l p n = some (pk l p n, p + 1) := by
  obtain ⟨v, _, _, hv⟩ := pick_some l h.bytes h.len p n hp hp' h1 h2
  unfold pk
  rw [hv 0]
  obtain ⟨k, rfl⟩ : ∃ m, k = m + 1 := ⟨k - 1, by omega⟩
  rw [hv k]
  rfl
theorem pk_bd {l : List Int} (h : Rdr l) (p n : Int) (hp : 0 ≤ p) (hp' : p ≤ 1000000) (h1 : 1 ≤ n) (h2 : n ≤ 1000000) : 0 ≤ pk l p n ∧ pk l p n < n := by
  obtain ⟨v, h3, h4, hv⟩ := pick_some l h.bytes h.len p n hp hp' h1 h2
  unfold pk
  rw [hv 0]
  exact ⟨h3, h4⟩
theorem open_f (l : List Int) (hl : Bytes l) : ∃ s, spec_l6Open.f l = some (s, 0) ∧ Rdr s := by
  unfold spec_l6Open.f
  by_cases h : (l.length : Int) > 2000
  · rw [if_pos h, if_pos (by omega)]
    exact ⟨_, rfl, ⟨fun n hn => hl n (List.mem_of_mem_take hn), by simp; omega⟩⟩
  · rw [if_neg h]
    exact ⟨_, rfl, ⟨hl, by omega⟩⟩
theorem bytes_of {l : List Int} (h : ∀ n ∈ l, (Lit.int .u8 n).wf = true) : Bytes l := fun n hn => by
  have := h n hn
  simp [Lit.wf, IntKind.min, IntKind.max, IntKind.signed, IntKind.bits] at this
  omega
theorem hex_d {l : List Int} (h : Rdr l) (p : Int) (hp : 0 ≤ p) (hp' : p ≤ 100000) : ∃ s q, -1 ≤ s ∧ s ≤ 22 ∧ p ≤ q ∧ q ≤ p + 2 ∧ ∀ k, 1 ≤ k → spec_l91Hex.f k l p = some (s, q) := by
  unfold spec_l91Hex.f
  by_cases h0 : pk l p 6 = 0
  · obtain ⟨v0, v1⟩ := pk_bd h (p + 1) 24 (by omega) (by omega) (by omega) (by omega)
    refine ⟨pk l (p + 1) 24 - 1, p + 2, by omega, by omega, by omega, by omega, fun k hk => ?_⟩
    rw [pk_f h p 6 k (by omega) (by omega) (by omega) (by omega) hk]
    simp only [Option.bind_some]
    rw [if_pos h0, pk_f h (p + 1) 24 k (by omega) (by omega) (by omega) (by omega) hk]
    simp only [Option.bind_some]
    rw [w0 (by omega) (by omega), show p + 1 + 1 = p + 2 by omega]
  · obtain ⟨v0, v1⟩ := pk_bd h (p + 1) 7 (by omega) (by omega) (by omega) (by omega)
    have hr : 0 ≤ rd ([0, 3, 6, 7, 10, 13, 14] : List Int) (pk l (p + 1) 7) ∧ rd ([0, 3, 6, 7, 10, 13, 14] : List Int) (pk l (p + 1) 7) ≤ 14 := by
      obtain ⟨n, hn⟩ := Int.eq_ofNat_of_zero_le v0
      rw [hn]
      have key : ∀ n : Nat, n < 7 → 0 ≤ rd ([0, 3, 6, 7, 10, 13, 14] : List Int) (n : Int) ∧ rd ([0, 3, 6, 7, 10, 13, 14] : List Int) (n : Int) ≤ 14 := by decide +kernel
      exact key n (by omega)
    refine ⟨rd ([0, 3, 6, 7, 10, 13, 14] : List Int) (pk l (p + 1) 7), p + 2, by omega, by omega, by omega, by omega, fun k hk => ?_⟩
    rw [pk_f h p 6 k (by omega) (by omega) (by omega) (by omega) hk]
    simp only [Option.bind_some]
    rw [if_neg h0, pk_f h (p + 1) 7 k (by omega) (by omega) (by omega) (by omega) hk]
    simp only [Option.bind_some]
    rw [if_pos v0, if_pos (by simpa using v1), show p + 1 + 1 = p + 2 by omega]
theorem hextone_d {l : List Int} (hl : Bytes l) : ∃ x y, -1 ≤ x ∧ x ≤ 22 ∧ -1 ≤ y ∧ y ≤ 6 ∧ ∀ k, 1 ≤ k → spec_DrawHexTone.f k l = some (x, y) := by
  obtain ⟨s, hs, h⟩ := open_f l hl
  obtain ⟨x, q, x0, x1, q0, q1, hx⟩ := hex_d h 0 (by omega) (by omega)
  unfold spec_DrawHexTone.f
  rw [hs]
  simp only [Option.bind_some]
  by_cases h0 : pk s q 12 = 0
  · obtain ⟨v0, v1⟩ := pk_bd h (q + 1) 2 (by omega) (by omega) (by omega) (by omega)
    have hr : -1 ≤ rd ([-1, 6] : List Int) (pk s (q + 1) 2) ∧ rd ([-1, 6] : List Int) (pk s (q + 1) 2) ≤ 6 := by
      obtain ⟨n, hn⟩ := Int.eq_ofNat_of_zero_le v0
      rw [hn]
      have key : ∀ n : Nat, n < 2 → -1 ≤ rd ([-1, 6] : List Int) (n : Int) ∧ rd ([-1, 6] : List Int) (n : Int) ≤ 6 := by decide +kernel
      exact key n (by omega)
    refine ⟨x, rd ([-1, 6] : List Int) (pk s (q + 1) 2), x0, x1, hr.1, hr.2, fun k hk => ?_⟩
    rw [hx k hk]
    simp only [Option.bind_some]
    rw [pk_f h q 12 k (by omega) (by omega) (by omega) (by omega) hk]
    simp only [Option.bind_some]
    rw [if_pos h0, pk_f h (q + 1) 2 k (by omega) (by omega) (by omega) (by omega) hk]
    simp only [Option.bind_some]
    rw [if_pos v0, if_pos (by simpa using v1)]
  · obtain ⟨v0, v1⟩ := pk_bd h (q + 1) 6 (by omega) (by omega) (by omega) (by omega)
    refine ⟨x, pk s (q + 1) 6, x0, x1, by omega, by omega, fun k hk => ?_⟩
    rw [hx k hk]
    simp only [Option.bind_some]
    rw [pk_f h q 12 k (by omega) (by omega) (by omega) (by omega) hk]
    simp only [Option.bind_some]
    rw [if_neg h0, pk_f h (q + 1) 6 k (by omega) (by omega) (by omega) (by omega) hk]
    simp only [Option.bind_some]
theorem FnHexKind : ∀ (l0 : List Int), l0.length ≤ maxLen → l0.length * 1 ≤ 140737488351232 → (∀ n ∈ l0, (Lit.int .u8 n).wf = true) → ∃ k, laws_FnHexKind.f k l0 = some true := by
  intro l0 z1 z2 hw
  refine ⟨20, ?_⟩
  unfold laws_FnHexKind.f
  by_cases h : (l0.length : Int) > 1048576
  · rw [if_pos h]
  · obtain ⟨x, y, x0, x1, y0, y1, hd⟩ := hextone_d (bytes_of hw)
    rw [if_neg h, hd 20 (by omega)]
    simp only [Option.bind_some]
    clear hd h hw
    obtain ⟨n, rfl⟩ : ∃ n : Nat, x = (n : Int) - 1 := ⟨(x + 1).toNat, by omega⟩
    obtain ⟨m, rfl⟩ : ∃ m : Nat, y = (m : Int) - 1 := ⟨(y + 1).toNat, by omega⟩
    have hn : n < 24 := by omega
    have hm : m < 8 := by omega
    clear x0 x1 y0 y1 z1 z2 l0
    revert hm
    revert m
    revert hn
    revert n
    decide +kernel

end Go.Proofs.YtjefoedojglhpaaDoor.PureFnHexKind
