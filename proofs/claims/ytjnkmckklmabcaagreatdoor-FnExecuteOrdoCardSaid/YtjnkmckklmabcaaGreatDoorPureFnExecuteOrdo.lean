/- FnExecuteOrdo: for every list of at most 1048576 bytes, the law of Execute's ordo holds of the mode and the number that the reference draws from it, and the list reads as before (longer lists the statement lets pass). Of the library's own variable internal/bytealg.MaxLen the world's shape alone is used. No condition beyond the statement's own. -/
import Derived.Test.YtjnkmckklmabcaaGreatDoorXOx0
import Derived.Test.YtjnkmckklmabcaaGreatDoorXOx3
import Derived.Test.YtjnkmckklmabcaaGreatDoorXOx5
import Derived.Laws.Bits64
namespace Go.Proofs.YtjnkmckklmabcaaGreatDoor.PureFnExecuteOrdo
open Go.RowKit Go.Proofs.YtjnkmckklmabcaaGreatDoor.XO Go.Proofs.YtjnkmckklmabcaaGreatDoorW.PrintWords Go.Proofs.YtjnkmckklmabcaaGreatDoorW.PrintLast Go.Proofs.YtjnkmckklmabcaaGreatDoorW.PrintMore 
set_option linter.unusedVariables false
set_option linter.unusedSimpArgs false
theorem w1 {i : Nat} (h : i < 4611686018427387904) : wrap64 ((i : Int) + 1) = ((i + 1 : Nat) : Int) := by
  unfold wrap64
  omega
theorem w0 {i : Int} (h : -9223372036854775808 ≤ i) (h' : i ≤ 9223372036854775807) : wrap64 i = i := by
  unfold wrap64
  omega
theorem rd_at (xs : List Int) (i : Nat) (h : i < xs.length) : rd xs (i : Int) = xs[i] := by
  simp [rd, List.getD_eq_getElem?_getD, h]
theorem xor_nn (a b : Int) (ha : 0 ≤ a) (ha' : a < 4611686018427387904) (hb : 0 ≤ b) (hb' : b < 4611686018427387904) : 0 ≤ Go.bits .xor .i64 a b := by
  obtain ⟨x, rfl⟩ := Int.eq_ofNat_of_zero_le ha
  obtain ⟨y, rfl⟩ := Int.eq_ofNat_of_zero_le hb
  have hx : x ^^^ y < 2 ^ 62 := Nat.xor_lt_two_pow (by omega) (by omega)
  have h1 : (BitVec.ofInt 64 (x : Int)).toNat = x := by
    rw [BitVec.ofInt_natCast, BitVec.toNat_ofNat]; exact Nat.mod_eq_of_lt (by omega)
  have h2 : (BitVec.ofInt 64 (y : Int)).toNat = y := by
    rw [BitVec.ofInt_natCast, BitVec.toNat_ofNat]; exact Nat.mod_eq_of_lt (by omega)
  have e : Go.bits .xor .i64 (x : Int) (y : Int) = IntKind.i64.wrap (((x ^^^ y : Nat)) : Int) := by
    show IntKind.i64.wrap ((BitVec.ofInt 64 (x : Int) ^^^ BitVec.ofInt 64 (y : Int)).toNat : Int) = _
    rw [BitVec.toNat_xor, h1, h2]
  rw [e, IntWalk.i64_in _ (by omega)]
  omega
/-- A list of bytes. -/
def Bytes (l : List Int) : Prop := ∀ n ∈ l, 0 ≤ n ∧ n ≤ 255
theorem rd_byte {l : List Int} (h : Bytes l) (i : Int) (h0 : 0 ≤ i) (h1 : i < (l.length : Int)) : 0 ≤ rd l i ∧ rd l i ≤ 255 := by
  obtain ⟨n, rfl⟩ := Int.eq_ofNat_of_zero_le h0
  have hn : n < l.length := by omega
  rw [rd_at l n hn]
  exact h _ (List.getElem_mem hn)
theorem tm_bd (a n : Int) (ha : 0 ≤ a) (hn : 0 < n) : 0 ≤ Int.tmod a n ∧ Int.tmod a n < n := by
  rw [Int.tmod_eq_emod_of_nonneg ha]
  exact ⟨Int.emod_nonneg _ (by omega), Int.emod_lt_of_pos _ hn⟩
theorem td_bd (a n : Int) (ha : 0 ≤ a) (hn : 0 < n) : 0 ≤ Int.tdiv a n ∧ Int.tdiv a n ≤ a := by
  rw [Int.tdiv_eq_ediv_of_nonneg ha]
  exact ⟨Int.ediv_nonneg ha (by omega), Int.ediv_le_self _ ha⟩
theorem pick_some (l : List Int) (hl : Bytes l) (hn : l.length ≤ 2000) (p n : Int) (hp : 0 ≤ p) (hp' : p ≤ 1000000) (h1 : 1 ≤ n) (h2 : n ≤ 1000000) :
    ∃ v, 0 ≤ v ∧ v < n ∧ ∀ k, spec_l6Rd_pick.f (k + 1) l p n = some (v, p + 1) := by
  unfold spec_l6Rd_pick.f
  simp only [spec_l6Rd_pick.j0]
  rw [if_neg (show ¬ n < 1 by omega), w0 (i := p + 1) (by omega) (by omega), show p + 1 - 1 = p by omega, w0 (i := p) (by omega) (by omega)]
  by_cases hl0 : l.length = 0
  · refine ⟨0, by omega, by omega, fun k => ?_⟩
    rw [if_pos (show ((l.length : Int) == 0) = true by rw [hl0]; rfl)]
  · rw [if_neg (show ¬ (((l.length : Int) == 0) = true) from fun h => hl0 (by have := beq_iff_eq.1 h; omega))]
    have hlp : (0 : Int) < (l.length : Int) := by omega
    by_cases hpl : p < (l.length : Int)
    · obtain ⟨b0, b1⟩ := rd_byte hl p hp hpl
      rw [if_pos hpl, if_pos hp, if_neg (show ¬ n = 0 by omega), w0 (i := rd l p) (by omega) (by omega)]
      obtain ⟨t0, t1⟩ := tm_bd (rd l p) n b0 (by omega)
      exact ⟨_, t0, t1, fun _ => rfl⟩
    · rw [if_neg hpl, if_neg (show ¬ (l.length : Int) = 0 by omega), w0 (i := p * 7) (by omega) (by omega), w0 (i := p * 7 + 3) (by omega) (by omega)]
      obtain ⟨i0, i1⟩ := tm_bd p (l.length : Int) hp hlp
      obtain ⟨j0, j1⟩ := tm_bd (p * 7 + 3) (l.length : Int) (by omega) hlp
      obtain ⟨q0, q1⟩ := td_bd p (l.length : Int) hp hlp
      rw [if_pos i0, if_pos i1, if_pos j0, if_pos j1, if_neg (show ¬ n = 0 by omega)]
      obtain ⟨a0, a1⟩ := rd_byte hl _ i0 i1
      obtain ⟨b0, b1⟩ := rd_byte hl _ j0 j1
      generalize rd l (Int.tmod p (l.length : Int)) = a at a0 a1 ⊢
      generalize rd l (Int.tmod (p * 7 + 3) (l.length : Int)) = b at b0 b1 ⊢
      generalize Int.tdiv p (l.length : Int) = q at q0 q1 ⊢
      simp (disch := omega) only [w0]
      have x0 : 0 ≤ a * 131 + b * 1117 + p * 29 + q * 53 := by omega
      obtain ⟨d0, d1⟩ := td_bd (a * 131 + b * 1117 + p * 29 + q * 53) 64 x0 (by omega)
      rw [w0 (i := Int.tdiv (a * 131 + b * 1117 + p * 29 + q * 53) 64) (by omega) (by omega)]
      obtain ⟨t0, t1⟩ := tm_bd (Go.bits .xor .i64 (a * 131 + b * 1117 + p * 29 + q * 53) (Int.tdiv (a * 131 + b * 1117 + p * 29 + q * 53) 64)) n (xor_nn _ _ x0 (by omega) d0 (by omega)) (by omega)
      exact ⟨_, t0, t1, fun _ => rfl⟩
/-- What a reader's pick answers. -/
def pk (l : List Int) (p n : Int) : Int := ((spec_l6Rd_pick.f 1 l p n).getD (0, 0)).1
structure Rdr (l : List Int) : Prop where
  bytes : Bytes l
  len : l.length ≤ 2000
theorem pk_f {l : List Int} (h : Rdr l) (p n : Int) (k : Nat) (hp : 0 ≤ p) (hp' : p ≤ 1000000) (h1 : 1 ≤ n) (h2 : n ≤ 1000000) (hk : 1 ≤ k) : spec_l6Rd_pick.f k l p n = some (pk l p n, p + 1) := by
  obtain ⟨v, _, _, hv⟩ := pick_some l h.bytes h.len p n hp hp' h1 h2
  unfold pk
  rw [hv 0]
  obtain ⟨k, rfl⟩ : ∃ m, k = m + 1 := ⟨k - 1, by omega⟩
  rw [hv k]
  rfl
theorem pk_bd {l : List Int} (h : Rdr l) (p n : Int) (hp : 0 ≤ p) (hp' : p ≤ 1000000) (h1 : 1 ≤ n) (h2 : n ≤ 1000000) : 0 ≤ pk l p n ∧ pk l p n < n := by
  obtain ⟨v, h3, h4, hv⟩ := pick_some l h.bytes h.len p n hp hp' h1 h2
  unfold pk
  rw [hv 0]
  exact ⟨h3, h4⟩
theorem open_f (l : List Int) (hl : Bytes l) : ∃ s, spec_l6Open.f l = some (s, 0) ∧ Rdr s := by
  unfold spec_l6Open.f
  by_cases h : (l.length : Int) > 2000
  · rw [if_pos h, if_pos (by omega)]
    exact ⟨_, rfl, ⟨fun n hn => hl n (List.mem_of_mem_take hn), by simp; omega⟩⟩
  · rw [if_neg h]
    exact ⟨_, rfl, ⟨hl, by omega⟩⟩
theorem bytes_of {l : List Int} (h : ∀ n ∈ l, (Lit.int .u8 n).wf = true) : Bytes l := fun n hn => by
  have := h n hn
  simp [Lit.wf, IntKind.min, IntKind.max, IntKind.signed, IntKind.bits] at this
  omega
theorem foot_draw {s : List Int} (h : Rdr s) (p : Int) (hp : 0 ≤ p) (hp2 : p ≤ 1000) (k : Nat) (hk : 1 ≤ k) : ∃ v q, spec_l92Foot.f k s p = some (v, q) ∧ 0 ≤ q ∧ q ≤ 2000 ∧ (v = -1 ∨ v = 0 ∨ v = 1 ∨ v = 2 ∨ v = 3 ∨ v = 4 ∨ v = 5 ∨ v = 6 ∨ v = 7) := by
  have h1 := pk_f h p 12 k hp (by omega) (by omega) (by omega) hk
  unfold spec_l92Foot.f
  rw [h1]
  simp only [Option.bind_some]
  by_cases e : pk s p 12 = 0
  · have h2 := pk_f h (p + 1) 3 k (by omega) (by omega) (by omega) (by omega) hk
    have b2 := pk_bd h (p + 1) 3 (by omega) (by omega) (by omega) (by omega)
    rw [if_pos e, h2]
    simp only [Option.bind_some]
    generalize pk s (p + 1) 3 = v2 at *
    have hv : v2 = 0 ∨ v2 = 1 ∨ v2 = 2 := by omega
    rcases hv with rfl | rfl | rfl
    · exact ⟨0, p + 1 + 1, rfl, by omega, by omega, by omega⟩
    · exact ⟨7, p + 1 + 1, rfl, by omega, by omega, by omega⟩
    · exact ⟨-1, p + 1 + 1, rfl, by omega, by omega, by omega⟩
  · have h2 := pk_f h (p + 1) 6 k (by omega) (by omega) (by omega) (by omega) hk
    have b2 := pk_bd h (p + 1) 6 (by omega) (by omega) (by omega) (by omega)
    rw [if_neg e, h2]
    simp only [Option.bind_some]
    generalize pk s (p + 1) 6 = v2 at *
    exact ⟨_, _, rfl, by omega, by omega, by rw [w0 (by omega) (by omega)]; omega⟩
def rest (k : Nat) (m n : Int) : Option Bool := ((impl_RhythmOrdo.f k m n).bind fun bt228 => ((spec_RhythmOrdo.f k m n).bind fun bt233 => (if (bt228.2.2 != bt233.2.2) = true then (laws_FnExecuteOrdo.j0 k m n bt228.1 bt228.2.1 bt228.2.2 bt233.1 bt233.2.1 bt233.2.2 true) else (if bt228.2.1 = bt233.2.1 then ((laws_sameInts.f k bt228.1 bt233.1).bind fun t238 => (if t238 = true then (laws_FnExecuteOrdo.j0 k m n bt228.1 bt228.2.1 bt228.2.2 bt233.1 bt233.2.1 bt233.2.2 (!bt228.2.2)) else (laws_FnExecuteOrdo.j0 k m n bt228.1 bt228.2.1 bt228.2.2 bt233.1 bt233.2.1 bt233.2.2 true))) else (laws_FnExecuteOrdo.j0 k m n bt228.1 bt228.2.1 bt228.2.2 bt233.1 bt233.2.1 bt233.2.2 true)))))
set_option maxRecDepth 100000 in
theorem rest_all : ∀ m ∈ ([-1, 0, 1, 2, 3, 4, 5, 6, 7] : List Int), ∀ n ∈ ([0, 1, 2, 3, 4, 5, 6, 7, 8, 9, 10, 11, 12, 13] : List Int), rest 60 m n = some true := by decide +kernel
theorem FnExecuteOrdo : ∀ (l0 : List Int), l0.length ≤ maxLen → l0.length * 1 ≤ 140737488351232 → (∀ n ∈ l0, (Lit.int .u8 n).wf = true) → ∃ k, laws_FnExecuteOrdo.f k l0 = some true := by
  intro l0 z1 z2 hw
  refine ⟨60, ?_⟩
  unfold laws_FnExecuteOrdo.f
  by_cases hl : (l0.length : Int) > 1048576
  · rw [if_pos hl]
  · rw [if_neg hl]
    obtain ⟨o, ho, hR⟩ := open_f l0 (bytes_of hw)
    obtain ⟨m, p, hf, p0, p1, hm⟩ := foot_draw hR 0 (by omega) (by omega) 60 (by omega)
    have hp := pk_f hR p 14 60 p0 (by omega) (by omega) (by omega) (by omega)
    have hb := pk_bd hR p 14 p0 (by omega) (by omega) (by omega)
    have hd : spec_DrawRhythmOrdo.f 60 l0 = some (m, pk o p 14) := by
      unfold spec_DrawRhythmOrdo.f
      rw [ho]
      simp only [Option.bind_some]
      rw [hf]
      simp only [Option.bind_some]
      rw [hp]
      rfl
    rw [hd, Option.bind_some]
    generalize pk o p 14 = n at hb
    exact rest_all m (by simp; omega) n (by simp; omega)

end Go.Proofs.YtjnkmckklmabcaaGreatDoor.PureFnExecuteOrdo
