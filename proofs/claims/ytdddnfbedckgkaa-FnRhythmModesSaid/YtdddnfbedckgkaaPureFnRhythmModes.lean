/- FnRhythmModes: for every drawn list of beats: the modes are the reference's, ascending, each with an ordo of these beats, and long enough beats have one mode alone. No condition beyond the statement's own. -/
import Derived.Test.YtdddnfbedckgkaaPFnRhythmModesx4
namespace Go.Proofs.Ytdddnfbedckgkaa.PureRhythmModes
open Go.RowKit Go.Proofs.Ytdddnfbedckgkaa.PFnRhythmModes Go.Proofs.YtdddnfbedckgkaaW.PrintWords Go.Proofs.YtdddnfbedckgkaaW.PrintLast
set_option linter.unusedSimpArgs false
set_option linter.unusedVariables false
theorem w1 {i : Nat} (h : i < 4611686018427387904) : wrap64 ((i : Int) + 1) = ((i + 1 : Nat) : Int) := by
  unfold wrap64
  omega
theorem w0 {i : Int} (h : -9223372036854775808 ≤ i) (h' : i ≤ 9223372036854775807) : wrap64 i = i := by
  unfold wrap64
  omega
theorem rd_at (xs : List Int) (i : Nat) (h : i < xs.length) : rd xs (i : Int) = xs[i] := by
  simp [rd, List.getD_eq_getElem?_getD, h]
theorem xor_nat (a b : Nat) (ha : a < 2 ^ 62) (hb : b < 2 ^ 62) : Go.bits .xor .i64 (a : Int) (b : Int) = ((a ^^^ b : Nat) : Int) := by
  have hp : 2 ^ 62 ≤ 2 ^ IntKind.i64.bits := Nat.pow_le_pow_right (by decide) (by decide)
  have ha' : a % 2 ^ IntKind.i64.bits = a := Nat.mod_eq_of_lt (Nat.lt_of_lt_of_le ha hp)
  have hb' : b % 2 ^ IntKind.i64.bits = b := Nat.mod_eq_of_lt (Nat.lt_of_lt_of_le hb hp)
  simp only [Go.bits, BitVec.ofInt_natCast, BitVec.toNat_xor, BitVec.toNat_ofNat, ha', hb']
  have h := Nat.xor_lt_two_pow ha hb
  rw [IntKind.wrap_i64]
  have : ((a ^^^ b : Nat) : Int) < 2 ^ 62 := by exact_mod_cast h
  omega
theorem xor_nonneg (a b : Int) (ha : 0 ≤ a) (ha' : a < 4611686018427387904) (hb : 0 ≤ b) (hb' : b < 4611686018427387904) : 0 ≤ Go.bits .xor .i64 a b := by
  obtain ⟨a, rfl⟩ := Int.eq_ofNat_of_zero_le ha
  obtain ⟨b, rfl⟩ := Int.eq_ofNat_of_zero_le hb
  rw [xor_nat a b (by omega) (by omega)]
  omega
theorem tm0 {a n : Int} (ha : 0 ≤ a) (hn : 1 ≤ n) : 0 ≤ Int.tmod a n ∧ Int.tmod a n < n := by
  rw [Int.tmod_eq_emod_of_nonneg ha]
  exact ⟨Int.emod_nonneg _ (by omega), Int.emod_lt_of_pos _ (by omega)⟩
def Bytes (b : List Int) : Prop := b.length ≤ 2000 ∧ ∀ x ∈ b, 0 ≤ x ∧ x < 256
theorem rd_byte {b : List Int} (h : Bytes b) (i : Int) (h0 : 0 ≤ i) (h1 : i < b.length) : 0 ≤ rd b i ∧ rd b i < 256 := by
  obtain ⟨i, rfl⟩ := Int.eq_ofNat_of_zero_le h0
  rw [rd_at b i (by omega)]
  exact h.2 _ (List.getElem_mem _)
theorem tdiv0 {a n : Int} (ha : 0 ≤ a) (hn : 1 ≤ n) : 0 ≤ Int.tdiv a n ∧ Int.tdiv a n ≤ a := by
  rw [Int.tdiv_eq_ediv_of_nonneg ha]
  exact ⟨Int.ediv_nonneg ha (by omega), Int.ediv_le_self _ ha⟩
theorem pick_ok {b : List Int} (h : Bytes b) (p n : Int) (hp : 0 ≤ p) (hp2 : p < 1000000000) (k : Nat) (hk : 1 ≤ k) : ∃ v, spec_l6Rd_pick.f k b p n = some (v, p + 1) ∧ 0 ≤ v ∧ (1 ≤ n → v < n) ∧ (n < 1 → v = 0) := by
  obtain ⟨k, rfl⟩ : ∃ m, k = m + 1 := ⟨k - 1, by omega⟩
  have e1 : wrap64 (p + 1) = p + 1 := w0 (by omega) (by omega)
  unfold spec_l6Rd_pick.f
  rw [e1]
  by_cases hn : n < 1
  · rw [if_pos hn]
    simp only [spec_l6Rd_pick.j0]
    exact ⟨0, rfl, by omega, fun z => by omega, fun _ => rfl⟩
  · rw [if_neg hn]
    have hn1 : 1 ≤ n := by omega
    simp only [spec_l6Rd_pick.j0]
    by_cases hb : b.length = 0
    · exact ⟨0, by simp [hb], by omega, fun z => by omega, fun _ => rfl⟩
    · have hb1 : 1 ≤ (b.length : Int) := by omega
      have hb2 : (b.length : Int) ≤ 2000 := by have := h.1; omega
      rw [if_neg (by simp; exact fun z => hb (by simp [z])), show wrap64 (p + 1 - 1) = p by rw [w0 (by omega) (by omega)]; omega]
      by_cases hlt : p < (b.length : Int)
      · have hr := rd_byte h p hp hlt
        have ht := tm0 (a := rd b p) (n := n) hr.1 hn1
        refine ⟨Int.tmod (rd b p) n, ?_, ht.1, fun _ => ht.2, fun z => by omega⟩
        rw [if_pos hlt, if_pos hp, if_neg (by omega), w0 (i := rd b p) (by omega) (by omega)]
      · rw [if_neg hlt, if_neg (by omega)]
        have t1 := tm0 (a := p) (n := (b.length : Int)) hp hb1
        have e7 : wrap64 (p * 7) = p * 7 := w0 (by omega) (by omega)
        have e73 : wrap64 (p * 7 + 3) = p * 7 + 3 := w0 (by omega) (by omega)
        have t2 := tm0 (a := p * 7 + 3) (n := (b.length : Int)) (by omega) hb1
        have r1 := rd_byte h _ t1.1 t1.2
        have r2 := rd_byte h _ t2.1 t2.2
        have q0 := tdiv0 (a := p) (n := (b.length : Int)) hp hb1
        rw [if_pos t1.1, if_pos t1.2, e7, e73, if_pos t2.1, if_pos t2.2, if_neg (by omega)]
        generalize rd b (Int.tmod p (b.length : Int)) = x1 at *
        generalize rd b (Int.tmod (p * 7 + 3) (b.length : Int)) = x2 at *
        generalize Int.tdiv p (b.length : Int) = q at *
        rw [w0 (i := x1) (by omega) (by omega), w0 (i := x2) (by omega) (by omega), w0 (i := q) (by omega) (by omega), w0 (i := x1 * 131) (by omega) (by omega), w0 (i := x2 * 1117) (by omega) (by omega), w0 (i := p * 29) (by omega) (by omega), w0 (i := q * 53) (by omega) (by omega), w0 (i := x1 * 131 + x2 * 1117) (by omega) (by omega), w0 (i := x1 * 131 + x2 * 1117 + p * 29) (by omega) (by omega), w0 (i := x1 * 131 + x2 * 1117 + p * 29 + q * 53) (by omega) (by omega)]
        have hX : 0 ≤ x1 * 131 + x2 * 1117 + p * 29 + q * 53 ∧ x1 * 131 + x2 * 1117 + p * 29 + q * 53 < 1000000000000 := by omega
        generalize x1 * 131 + x2 * 1117 + p * 29 + q * 53 = X at *
        have d0 := tdiv0 (a := X) (n := 64) hX.1 (by omega)
        have hx := xor_nonneg X (wrap64 (Int.tdiv X 64)) hX.1 (by omega) (by rw [w0 (by omega) (by omega)]; exact d0.1) (by rw [w0 (by omega) (by omega)]; omega)
        have ht := tm0 (a := Go.bits .xor .i64 X (wrap64 (Int.tdiv X 64))) (n := n) hx hn1
        exact ⟨_, rfl, ht.1, fun _ => ht.2, fun z => by omega⟩
theorem open_ok (l : List Int) (hw : ∀ x ∈ l, (Lit.int .u8 x).wf = true) : ∃ b, spec_l6Open.f l = some (b, 0) ∧ Bytes b := by
  have hB : ∀ x ∈ l, 0 ≤ x ∧ x < 256 := fun x hx => by
    have := hw x hx
    simp [Lit.wf, IntKind.min, IntKind.max, IntKind.bits, IntKind.signed] at this
    omega
  unfold spec_l6Open.f
  by_cases h : (l.length : Int) > 2000
  · refine ⟨l.take 2000, by rw [if_pos h, if_pos (by omega)], ?_, fun x hx => hB x (List.mem_of_mem_take hx)⟩
    simp
    omega
  · exact ⟨l, by rw [if_neg h], by omega, hB⟩
theorem foot_none (a : Int) (h : a < 1 ∨ 6 < a) : impl_RhythmFoot.f a = some [] ∧ spec_RhythmFoot.f a = some [] := by
  constructor
  · unfold impl_RhythmFoot.f
    rw [if_neg (by omega), if_neg (by omega), if_neg (by omega), if_neg (by omega), if_neg (by omega), if_neg (by omega)]
  · unfold spec_RhythmFoot.f spec_l6In.f
    by_cases h1 : a ≥ 1
    · rw [if_pos h1, decide_eq_false (by omega)]; rfl
    · rw [if_neg h1]; rfl
theorem foot_some (a : Int) (h : ¬ (a < 1 ∨ 6 < a)) : a = 1 ∨ a = 2 ∨ a = 3 ∨ a = 4 ∨ a = 5 ∨ a = 6 := by omega
theorem twelve (n : Int) (h : ¬ (n < 1 ∨ 12 < n)) : n = 1 ∨ n = 2 ∨ n = 3 ∨ n = 4 ∨ n = 5 ∨ n = 6 ∨ n = 7 ∨ n = 8 ∨ n = 9 ∨ n = 10 ∨ n = 11 ∨ n = 12 := by omega
theorem ordo_none (k : Nat) (a n : Int) (h : (a < 1 ∨ 6 < a) ∨ (n < 1 ∨ 12 < n)) : impl_RhythmOrdo.f (k + 1) a n = some ([], 0, false) ∧ spec_RhythmOrdo.f (k + 1) a n = some ([], 0, false) := by
  by_cases h1 : a < 1 ∨ 6 < a
  · obtain ⟨e1, e2⟩ := foot_none a h1
    constructor
    · unfold impl_RhythmOrdo.f
      rw [e1]; rfl
    · unfold spec_RhythmOrdo.f
      rw [e2]; rfl
  · have h2 : n < 1 ∨ 12 < n := h.resolve_left h1
    have e3 : (decide (n > 12)) = true ∨ n < 1 := by
      rcases h2 with h2 | h2
      · exact .inr h2
      · exact .inl (decide_eq_true h2)
    have e4 : spec_l6In.f n 1 12 = some false := by
      unfold spec_l6In.f
      by_cases h1 : n ≥ 1
      · rw [if_pos h1, decide_eq_false (by omega)]
      · rw [if_neg h1]
    constructor
    · unfold impl_RhythmOrdo.f
      rcases foot_some a h1 with rfl | rfl | rfl | rfl | rfl | rfl <;> (rcases e3 with e | e <;> simp [impl_RhythmFoot.f, e, impl_RhythmOrdo.j0])
    · unfold spec_RhythmOrdo.f
      rw [e4]
      rcases foot_some a h1 with rfl | rfl | rfl | rfl | rfl | rfl <;> simp [spec_RhythmFoot.f, spec_l6In.f, rd_L1, wrap64, spec_RhythmOrdo.j0]

theorem foot_draw {b : List Int} (h : Bytes b) (p : Int) (hp : 0 ≤ p) (hp2 : p < 100000) (k : Nat) (hk : 1 ≤ k) : ∃ v q, spec_l92Foot.f k b p = some (v, q) ∧ 0 ≤ q ∧ q < 200000 ∧ (v = -1 ∨ v = 0 ∨ v = 1 ∨ v = 2 ∨ v = 3 ∨ v = 4 ∨ v = 5 ∨ v = 6 ∨ v = 7) := by
  obtain ⟨v1, h1, a1, b1, _⟩ := pick_ok h p 12 hp (by omega) k hk
  unfold spec_l92Foot.f
  rw [h1]
  simp only [Option.bind_some]
  by_cases e : v1 = 0
  · obtain ⟨v2, h2, a2, b2, _⟩ := pick_ok h (p + 1) 3 (by omega) (by omega) k hk
    rw [if_pos e, h2]
    simp only [Option.bind_some]
    have := b2 (by omega)
    have hv : v2 = 0 ∨ v2 = 1 ∨ v2 = 2 := by omega
    rcases hv with rfl | rfl | rfl
    · exact ⟨0, p + 1 + 1, rfl, by omega, by omega, by omega⟩
    · exact ⟨7, p + 1 + 1, rfl, by omega, by omega, by omega⟩
    · exact ⟨-1, p + 1 + 1, rfl, by omega, by omega, by omega⟩
  · obtain ⟨v2, h2, a2, b2, _⟩ := pick_ok h (p + 1) 6 (by omega) (by omega) k hk
    have := b2 (by omega)
    rw [if_neg e, h2]
    simp only [Option.bind_some]
    exact ⟨_, _, rfl, by omega, by omega, by rw [w0 (by omega) (by omega)]; omega⟩

def rest (k : Nat) (t : List Int) : Option Bool := (impl_RhythmModes.f k t).bind fun t239 => ((spec_RhythmModes.f k t).bind fun t242 => ((laws_sameInts.f k t239 t242).bind fun t245 => (if t245 = true then (laws_FnRhythmModes.j0 k t t239 t242 ((t239.length : Int) == 0)) else (laws_FnRhythmModes.j0 k t t239 t242 true))))
def L (m n : Int) : List Int := ((spec_RhythmOrdo.f 60 m n).getD ([], 0, false)).1
theorem L_all : ∀ m ∈ ([-1, 0, 1, 2, 3, 4, 5, 6, 7] : List Int), ∀ n ∈ ([1, 2, 3, 4, 5, 6] : List Int), (∃ r, spec_RhythmOrdo.f 60 m n = some (L m n, r)) ∧ (L m n).length ≤ 6 ∧ rest 60 (L m n) = some true := by
  intro m hm n hn
  have h : (spec_RhythmOrdo.f 60 m n).isSome = true ∧ (L m n).length ≤ 6 ∧ rest 60 (L m n) = some true := by
    revert n
    revert m
    decide +kernel
  refine ⟨?_, h.2⟩
  unfold L
  cases e : spec_RhythmOrdo.f 60 m n with
  | none => rw [e] at h; simp at h
  | some r => exact ⟨r.2, rfl⟩
theorem L_set : ∀ m ∈ ([-1, 0, 1, 2, 3, 4, 5, 6, 7] : List Int), ∀ n ∈ ([1, 2, 3, 4, 5, 6] : List Int), ∀ i ∈ [0, 1, 2, 3, 4, 5], ∀ v ∈ ([1, 2, 3] : List Int), rest 60 ((L m n).set i v) = some true := by decide +kernel
theorem main : laws_FnRhythmModes.Pure := by
  intro l _ _ hw
  by_cases hl : (l.length : Int) > 1048576
  · exact ⟨1, by unfold laws_FnRhythmModes.f; rw [if_pos hl]⟩
  · obtain ⟨b, ho, hB⟩ := open_ok l hw
    obtain ⟨m, p, hf, p0, p1, hm⟩ := foot_draw hB 0 (by omega) (by omega) 60 (by omega)
    obtain ⟨n, hp, n0, n1, _⟩ := pick_ok hB p 6 p0 (by omega) 60 (by omega)
    have n2 := n1 (by omega)
    have hm' : m ∈ ([-1, 0, 1, 2, 3, 4, 5, 6, 7] : List Int) := by simp; omega
    have hn' : 1 + n ∈ ([1, 2, 3, 4, 5, 6] : List Int) := by simp; omega
    obtain ⟨⟨r, hr⟩, hL6, hL⟩ := L_all m hm' (1 + n) hn'
    have hset := L_set m hm' (1 + n) hn'
    refine ⟨60, ?_⟩
    unfold laws_FnRhythmModes.f spec_DrawRhythmModes.f
    rw [if_neg hl, ho]
    simp only [Option.bind_some]
    rw [hf]
    simp only [Option.bind_some]
    rw [hp]
    simp only [Option.bind_some]
    rw [w0 (by omega) (by omega), hr]
    simp only [Option.bind_some]
    by_cases h0 : ((L m (1 + n)).length : Int) > 0
    · rw [if_pos h0]
      obtain ⟨x, hx, x0, x1, _⟩ := pick_ok hB (p + 1) 5 (by omega) (by omega) 60 (by omega)
      rw [hx]
      simp only [Option.bind_some, spec_DrawRhythmModes.j0]
      by_cases hx0 : (x == 0) = true
      · obtain ⟨i, hi, i0, i1, _⟩ := pick_ok hB (p + 1 + 1) ((L m (1 + n)).length : Int) (by omega) (by omega) 59 (by omega)
        obtain ⟨v, hv, v0, v1, _⟩ := pick_ok hB (p + 1 + 1 + 1) 3 (by omega) (by omega) 59 (by omega)
        have i2 := i1 (by omega)
        have v2 := v1 (by omega)
        rw [if_pos hx0, hi]
        simp only [Option.bind_some]
        rw [hv]
        simp only [Option.bind_some]
        rw [if_pos i0, if_pos i2, w0 (by omega) (by omega)]
        exact hset i.toNat (by simp; omega) (1 + v) (by simp; omega)
      · rw [if_neg hx0]
        exact hL
    · rw [if_neg h0]
      exact hL

end Go.Proofs.Ytdddnfbedckgkaa.PureRhythmModes
namespace Go.Proofs.Ytdddnfbedckgkaa.Pure
theorem FnRhythmModes : PFnRhythmModes.laws_FnRhythmModes.Pure := Go.Proofs.Ytdddnfbedckgkaa.PureRhythmModes.main
end Go.Proofs.Ytdddnfbedckgkaa.Pure
