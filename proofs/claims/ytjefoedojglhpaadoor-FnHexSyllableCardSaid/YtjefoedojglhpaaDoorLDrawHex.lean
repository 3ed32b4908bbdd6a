import Derived.Test.YtjefoedojglhpaaDoorLBase
import Derived.Test.YtjefoedojglhpaaDoorLHex
import Derived.Test.YtjefoedojglhpaaDoorLDraw
import Derived.Test.YtjefoedojglhpaaDoorGx7
import Derived.Test.YtjefoedojglhpaaDoorGx11
namespace Go.Proofs.YtjefoedojglhpaaDoor.LDrawHex
open Go.RowKit Go.Proofs.YtjefoedojglhpaaDoor.G Go.Proofs.YtjefoedojglhpaaDoorW.PrintWords Go.Proofs.YtjefoedojglhpaaDoorW.PrintLast Go.Proofs.YtjefoedojglhpaaDoorW.PrintMore Go.Proofs.YtjefoedojglhpaaDoor.LBase Go.Proofs.YtjefoedojglhpaaDoor.LHex Go.Proofs.YtjefoedojglhpaaDoor.LDraw
set_option linter.unusedVariables false
set_option linter.unusedSimpArgs false
theorem hex_d {l : List Int} (h : Rdr l) (p : Int) (hp : 0 ≤ p) (hp' : p ≤ 100000) : ∃ s q, -1 ≤ s ∧ s ≤ 22 ∧ p ≤ q ∧ q ≤ p + 2 ∧ ∀ k, 1 ≤ k → spec_l91Hex.f k l p = some (s, q) := by
  unfold spec_l91Hex.f
  by_cases h0 : pk l p 6 = 0
  · obtain ⟨v0, v1⟩ := pk_bd h (p + 1) 24 (by omega) (by omega) (by omega) (by omega)
    refine ⟨pk l (p + 1) 24 - 1, p + 2, by omega, by omega, by omega, by omega, fun k hk => ?_⟩
    rw [pk_f h p 6 k (by omega) (by omega) (by omega) (by omega) hk]
    simp only [Option.bind_some]
    rw [if_pos h0, pk_f h (p + 1) 24 k (by omega) (by omega) (by omega) (by omega) hk]
    simp only [Option.bind_some]
    rw [w0 (by omega) (by omega), show p + 1 + 1 = p + 2 by omega]
  · obtain ⟨v0, v1⟩ := pk_bd h (p + 1) 7 (by omega) (by omega) (by omega) (by omega)
    have hr : 0 ≤ rd ([0, 3, 6, 7, 10, 13, 14] : List Int) (pk l (p + 1) 7) ∧ rd ([0, 3, 6, 7, 10, 13, 14] : List Int) (pk l (p + 1) 7) ≤ 14 := by
      obtain ⟨n, hn⟩ := Int.eq_ofNat_of_zero_le v0
      rw [hn]
      have key : ∀ n : Nat, n < 7 → 0 ≤ rd ([0, 3, 6, 7, 10, 13, 14] : List Int) (n : Int) ∧ rd ([0, 3, 6, 7, 10, 13, 14] : List Int) (n : Int) ≤ 14 := by decide +kernel
      exact key n (by omega)
    refine ⟨rd ([0, 3, 6, 7, 10, 13, 14] : List Int) (pk l (p + 1) 7), p + 2, by omega, by omega, by omega, by omega, fun k hk => ?_⟩
    rw [pk_f h p 6 k (by omega) (by omega) (by omega) (by omega) hk]
    simp only [Option.bind_some]
    rw [if_neg h0, pk_f h (p + 1) 7 k (by omega) (by omega) (by omega) (by omega) hk]
    simp only [Option.bind_some]
    rw [if_pos v0, if_pos (by simpa using v1), show p + 1 + 1 = p + 2 by omega]
theorem hextone_d {l : List Int} (hl : Bytes l) : ∃ x y, -1 ≤ x ∧ x ≤ 22 ∧ -1 ≤ y ∧ y ≤ 6 ∧ ∀ k, 1 ≤ k → spec_DrawHexTone.f k l = some (x, y) := by
  obtain ⟨s, hs, h⟩ := open_f l hl
  obtain ⟨x, q, x0, x1, q0, q1, hx⟩ := hex_d h 0 (by omega) (by omega)
  unfold spec_DrawHexTone.f
  rw [hs]
  simp only [Option.bind_some]
  by_cases h0 : pk s q 12 = 0
  · obtain ⟨v0, v1⟩ := pk_bd h (q + 1) 2 (by omega) (by omega) (by omega) (by omega)
    have hr : -1 ≤ rd ([-1, 6] : List Int) (pk s (q + 1) 2) ∧ rd ([-1, 6] : List Int) (pk s (q + 1) 2) ≤ 6 := by
      obtain ⟨n, hn⟩ := Int.eq_ofNat_of_zero_le v0
      rw [hn]
      have key : ∀ n : Nat, n < 2 → -1 ≤ rd ([-1, 6] : List Int) (n : Int) ∧ rd ([-1, 6] : List Int) (n : Int) ≤ 6 := by decide +kernel
      exact key n (by omega)
    refine ⟨x, rd ([-1, 6] : List Int) (pk s (q + 1) 2), x0, x1, hr.1, hr.2, fun k hk => ?_⟩
    rw [hx k hk]
    simp only [Option.bind_some]
    rw [pk_f h q 12 k (by omega) (by omega) (by omega) (by omega) hk]
    simp only [Option.bind_some]
    rw [if_pos h0, pk_f h (q + 1) 2 k (by omega) (by omega) (by omega) (by omega) hk]
    simp only [Option.bind_some]
    rw [if_pos v0, if_pos (by simpa using v1)]
  · obtain ⟨v0, v1⟩ := pk_bd h (q + 1) 6 (by omega) (by omega) (by omega) (by omega)
    refine ⟨x, pk s (q + 1) 6, x0, x1, by omega, by omega, fun k hk => ?_⟩
    rw [hx k hk]
    simp only [Option.bind_some]
    rw [pk_f h q 12 k (by omega) (by omega) (by omega) (by omega) hk]
    simp only [Option.bind_some]
    rw [if_neg h0, pk_f h (q + 1) 6 k (by omega) (by omega) (by omega) (by omega) hk]
    simp only [Option.bind_some]
theorem letter_f (a : Int) : spec_l1Letter.f a = some (Int.tmod a 7) := rfl
theorem tone_d {l : List Int} (h : Rdr l) (p : Int) (hp : 0 ≤ p) (hp' : p ≤ 100000) : ∃ t b q, -1 ≤ t ∧ t ≤ 21 ∧ p ≤ q ∧ q ≤ p + 3 ∧ ∀ k, 1 ≤ k → spec_l91Tone.f k l p = some (t, b, q) := by
  unfold spec_l91Tone.f
  by_cases h0 : pk l p 40 = 0
  · obtain ⟨v0, v1⟩ := pk_bd h (p + 1) 4 (by omega) (by omega) (by omega) (by omega)
    have hr : -1 ≤ rd ([-1, 21, 20, 0] : List Int) (pk l (p + 1) 4) ∧ rd ([-1, 21, 20, 0] : List Int) (pk l (p + 1) 4) ≤ 21 := by
      obtain ⟨n, hn⟩ := Int.eq_ofNat_of_zero_le v0
      rw [hn]
      have key : ∀ n : Nat, n < 4 → -1 ≤ rd ([-1, 21, 20, 0] : List Int) (n : Int) ∧ rd ([-1, 21, 20, 0] : List Int) (n : Int) ≤ 21 := by decide +kernel
      exact key n (by omega)
    refine ⟨rd ([-1, 21, 20, 0] : List Int) (pk l (p + 1) 4), false, p + 1 + 1, hr.1, hr.2, by omega, by omega, fun k hk => ?_⟩
    rw [pk_f h p 40 k (by omega) (by omega) (by omega) (by omega) hk]
    simp only [Option.bind_some]
    rw [if_pos h0, pk_f h (p + 1) 4 k (by omega) (by omega) (by omega) (by omega) hk]
    simp only [Option.bind_some]
    rw [if_pos v0, if_pos (by simpa using v1)]
  · by_cases h1 : pk l p 40 = 1
    · obtain ⟨v0, v1⟩ := pk_bd h (p + 1) 21 (by omega) (by omega) (by omega) (by omega)
      refine ⟨pk l (p + 1) 21, true, p + 1 + 1, by omega, by omega, by omega, by omega, fun k hk => ?_⟩
      rw [pk_f h p 40 k (by omega) (by omega) (by omega) (by omega) hk]
      simp only [Option.bind_some]
      rw [if_neg h0, if_pos h1, pk_f h (p + 1) 21 k (by omega) (by omega) (by omega) (by omega) hk]
      rfl
    · obtain ⟨v0, v1⟩ := pk_bd h (p + 1) 11 (by omega) (by omega) (by omega) (by omega)
      by_cases h2 : Int.tmod (3 + pk l (p + 1) 11) 7 = 2
      · refine ⟨3 + pk l (p + 1) 11, pk l (p + 1 + 1) 2 == 0, p + 1 + 1 + 1, by omega, by omega, by omega, by omega, fun k hk => ?_⟩
        rw [pk_f h p 40 k (by omega) (by omega) (by omega) (by omega) hk]
        simp only [Option.bind_some]
        rw [if_neg h0, if_neg h1, pk_f h (p + 1) 11 k (by omega) (by omega) (by omega) (by omega) hk]
        simp only [Option.bind_some]
        rw [w0 (i := 3 + pk l (p + 1) 11) (by omega) (by omega), letter_f]
        simp only [Option.bind_some]
        rw [if_pos h2, pk_f h (p + 1 + 1) 2 k (by omega) (by omega) (by omega) (by omega) hk]
        rfl
      · refine ⟨3 + pk l (p + 1) 11, false, p + 1 + 1, by omega, by omega, by omega, by omega, fun k hk => ?_⟩
        rw [pk_f h p 40 k (by omega) (by omega) (by omega) (by omega) hk]
        simp only [Option.bind_some]
        rw [if_neg h0, if_neg h1, pk_f h (p + 1) 11 k (by omega) (by omega) (by omega) (by omega) hk]
        simp only [Option.bind_some]
        rw [w0 (i := 3 + pk l (p + 1) 11) (by omega) (by omega), letter_f]
        simp only [Option.bind_some]
        rw [if_neg h2]
theorem hextone_tot (x y : Int) (h0 : 0 ≤ y) (h1 : y < 6) : ∃ t, spec_HexTone.f x y = some t ∧ 0 ≤ t.1 ∧ t.1 ≤ 20 := by
  obtain ⟨m, rfl⟩ := Int.eq_ofNat_of_zero_le h0
  by_cases h : 0 ≤ x ∧ x ≤ 14
  · obtain ⟨n, rfl⟩ := Int.eq_ofNat_of_zero_le h.1
    exact hextone_in n m (by omega) (by omega)
  · exact ⟨_, hextone_out h _, by omega, by omega⟩
theorem hexsyl_d {l : List Int} (hl : Bytes l) : ∃ x t b, -1 ≤ x ∧ x ≤ 22 ∧ -1 ≤ t ∧ t ≤ 21 ∧ ∀ k, 1 ≤ k → spec_DrawHexSyllable.f k l = some (x, t, b) := by
  obtain ⟨s, hs, h⟩ := open_f l hl
  obtain ⟨x, q, x0, x1, q0, q1, hx⟩ := hex_d h 0 (by omega) (by omega)
  obtain ⟨y0, y1⟩ := pk_bd h q 6 (by omega) (by omega) (by omega) (by omega)
  obtain ⟨u, hu, u0, u1⟩ := hextone_tot x (pk s q 6) y0 y1
  unfold spec_DrawHexSyllable.f
  rw [hs]
  simp only [Option.bind_some]
  have hy := fun k (hk : 1 ≤ k) => pk_f h q 6 k (by omega) (by omega) (by omega) (by omega) hk
  by_cases h0 : u.2.2 = true
  · by_cases h1 : pk s (q + 1) 2 = 0
    · refine ⟨x, u.1, u.2.1, x0, x1, by omega, by omega, fun k hk => ?_⟩
      rw [hx k hk]
      simp only [Option.bind_some]
      rw [hy k hk]
      simp only [Option.bind_some]
      rw [hu]
      simp only [Option.bind_some]
      rw [if_pos h0, pk_f h (q + 1) 2 k (by omega) (by omega) (by omega) (by omega) hk]
      simp only [Option.bind_some]
      rw [if_pos h1]
    · obtain ⟨t, b, q', t0, t1, _, _, ht⟩ := tone_d h (q + 1 + 1) (by omega) (by omega)
      refine ⟨x, t, b, x0, x1, t0, t1, fun k hk => ?_⟩
      rw [hx k hk]
      simp only [Option.bind_some]
      rw [hy k hk]
      simp only [Option.bind_some]
      rw [hu]
      simp only [Option.bind_some]
      rw [if_pos h0, pk_f h (q + 1) 2 k (by omega) (by omega) (by omega) (by omega) hk]
      simp only [Option.bind_some]
      rw [if_neg h1, ht k hk]
      rfl
  · obtain ⟨t, b, q', t0, t1, _, _, ht⟩ := tone_d h (q + 1) (by omega) (by omega)
    refine ⟨x, t, b, x0, x1, t0, t1, fun k hk => ?_⟩
    rw [hx k hk]
    simp only [Option.bind_some]
    rw [hy k hk]
    simp only [Option.bind_some]
    rw [hu]
    simp only [Option.bind_some]
    rw [if_neg h0, ht k hk]
    rfl

end Go.Proofs.YtjefoedojglhpaaDoor.LDrawHex
