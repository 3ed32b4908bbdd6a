/- FnStemFill: for every two lists of at most 1048576 bytes, the law of StemFill holds of the manuscripts and the stem that the reference draws from the first (longer lists the statement lets pass). The filled stem is the best of all: the fewest changes are found column by column from the copies up, the letters from the first manuscript down. The library tables that the row lists are tied to the text of the program and not used. No condition beyond the own ones of the statement. -/
import Derived.Test.YtdodkidnblmheaaDoorSLx0
import Derived.Test.YtdodkidnblmheaaDoorSLx2
import Derived.Test.YtdodkidnblmheaaDoorSLx1
import Derived.Test.YtdodkidnblmheaaDoorSLx3
import Derived.Test.YtdodkidnblmheaaDoorSLx4
import Derived.Test.YtdodkidnblmheaaDoorSLx5
import Derived.Laws.Bits64
import Derived.Laws.Closers25b
namespace Go.Proofs.YtdodkidnblmheaaDoor.PureFnStemFill
open Go.RowKit Go.Proofs.YtdodkidnblmheaaDoor.SL Go.Proofs.YtdodkidnblmheaaDoorW.PrintWords Go.Proofs.YtdodkidnblmheaaDoorW.PrintLast Go.Proofs.YtdodkidnblmheaaDoorW.PrintMore 
set_option linter.unusedVariables false
set_option linter.unusedSimpArgs false
theorem w1 {i : Nat} (h : i < 4611686018427387904) : wrap64 ((i : Int) + 1) = ((i + 1 : Nat) : Int) := by
  unfold wrap64
  omega
theorem w0 {i : Int} (h : -9223372036854775808 ≤ i) (h' : i ≤ 9223372036854775807) : wrap64 i = i := by
  unfold wrap64
  omega
theorem rd_at (xs : List Int) (i : Nat) (h : i < xs.length) : rd xs (i : Int) = xs[i] := by
  simp [rd, List.getD_eq_getElem?_getD, h]
theorem xor_nn (a b : Int) (ha : 0 ≤ a) (ha' : a < 4611686018427387904) (hb : 0 ≤ b) (hb' : b < 4611686018427387904) : 0 ≤ Go.bits .xor .i64 a b := by
  obtain ⟨x, rfl⟩ := Int.eq_ofNat_of_zero_le ha
  obtain ⟨y, rfl⟩ := Int.eq_ofNat_of_zero_le hb
  have hx : x ^^^ y < 2 ^ 62 := Nat.xor_lt_two_pow (by omega) (by omega)
  have h1 : (BitVec.ofInt 64 (x : Int)).toNat = x := by
    rw [BitVec.ofInt_natCast, BitVec.toNat_ofNat]; exact Nat.mod_eq_of_lt (by omega)
  have h2 : (BitVec.ofInt 64 (y : Int)).toNat = y := by
    rw [BitVec.ofInt_natCast, BitVec.toNat_ofNat]; exact Nat.mod_eq_of_lt (by omega)
  have e : Go.bits .xor .i64 (x : Int) (y : Int) = IntKind.i64.wrap (((x ^^^ y : Nat)) : Int) := by
    show IntKind.i64.wrap ((BitVec.ofInt 64 (x : Int) ^^^ BitVec.ofInt 64 (y : Int)).toNat : Int) = _
    rw [BitVec.toNat_xor, h1, h2]
  rw [e, IntWalk.i64_in _ (by omega)]
  omega
/-- A list of bytes. -/
def Bytes (l : List Int) : Prop := ∀ n ∈ l, 0 ≤ n ∧ n ≤ 255
theorem rd_byte {l : List Int} (h : Bytes l) (i : Int) (h0 : 0 ≤ i) (h1 : i < (l.length : Int)) : 0 ≤ rd l i ∧ rd l i ≤ 255 := by
  obtain ⟨n, rfl⟩ := Int.eq_ofNat_of_zero_le h0
  have hn : n < l.length := by omega
  rw [rd_at l n hn]
  exact h _ (List.getElem_mem hn)
theorem tm_bd (a n : Int) (ha : 0 ≤ a) (hn : 0 < n) : 0 ≤ Int.tmod a n ∧ Int.tmod a n < n := by
  rw [Int.tmod_eq_emod_of_nonneg ha]
  exact ⟨Int.emod_nonneg _ (by omega), Int.emod_lt_of_pos _ hn⟩
theorem td_bd (a n : Int) (ha : 0 ≤ a) (hn : 0 < n) : 0 ≤ Int.tdiv a n ∧ Int.tdiv a n ≤ a := by
  rw [Int.tdiv_eq_ediv_of_nonneg ha]
  exact ⟨Int.ediv_nonneg ha (by omega), Int.ediv_le_self _ ha⟩
theorem pick_some (l : List Int) (hl : Bytes l) (hn : l.length ≤ 2000) (p n : Int) (hp : 0 ≤ p) (hp' : p ≤ 1000000) (h1 : 1 ≤ n) (h2 : n ≤ 1000000) :
    ∃ v, 0 ≤ v ∧ v < n ∧ ∀ k, spec_l6Rd_pick.f (k + 1) l p n = some (v, p + 1) := by
  unfold spec_l6Rd_pick.f
  simp only [spec_l6Rd_pick.j0]
  rw [if_neg (show ¬ n < 1 by omega), w0 (i := p + 1) (by omega) (by omega), show p + 1 - 1 = p by omega, w0 (i := p) (by omega) (by omega)]
  by_cases hl0 : l.length = 0
  · refine ⟨0, by omega, by omega, fun k => ?_⟩
    rw [if_pos (show ((l.length : Int) == 0) = true by rw [hl0]; rfl)]
  · rw [if_neg (show ¬ (((l.length : Int) == 0) = true) from fun h => hl0 (by have := beq_iff_eq.1 h; omega))]
    have hlp : (0 : Int) < (l.length : Int) := by omega
    by_cases hpl : p < (l.length : Int)
    · obtain ⟨b0, b1⟩ := rd_byte hl p hp hpl
      rw [if_pos hpl, if_pos hp, if_neg (show ¬ n = 0 by omega), w0 (i := rd l p) (by omega) (by omega)]
      obtain ⟨t0, t1⟩ := tm_bd (rd l p) n b0 (by omega)
      exact ⟨_, t0, t1, fun _ => rfl⟩
    · rw [if_neg hpl, if_neg (show ¬ (l.length : Int) = 0 by omega), w0 (i := p * 7) (by omega) (by omega), w0 (i := p * 7 + 3) (by omega) (by omega)]
      obtain ⟨i0, i1⟩ := tm_bd p (l.length : Int) hp hlp
      obtain ⟨j0, j1⟩ := tm_bd (p * 7 + 3) (l.length : Int) (by omega) hlp
      obtain ⟨q0, q1⟩ := td_bd p (l.length : Int) hp hlp
      rw [if_pos i0, if_pos i1, if_pos j0, if_pos j1, if_neg (show ¬ n = 0 by omega)]
      obtain ⟨a0, a1⟩ := rd_byte hl _ i0 i1
      obtain ⟨b0, b1⟩ := rd_byte hl _ j0 j1
      generalize rd l (Int.tmod p (l.length : Int)) = a at a0 a1 ⊢
      generalize rd l (Int.tmod (p * 7 + 3) (l.length : Int)) = b at b0 b1 ⊢
      generalize Int.tdiv p (l.length : Int) = q at q0 q1 ⊢
      simp (disch := omega) only [w0]
      have x0 : 0 ≤ a * 131 + b * 1117 + p * 29 + q * 53 := by omega
      obtain ⟨d0, d1⟩ := td_bd (a * 131 + b * 1117 + p * 29 + q * 53) 64 x0 (by omega)
      rw [w0 (i := Int.tdiv (a * 131 + b * 1117 + p * 29 + q * 53) 64) (by omega) (by omega)]
      obtain ⟨t0, t1⟩ := tm_bd (Go.bits .xor .i64 (a * 131 + b * 1117 + p * 29 + q * 53) (Int.tdiv (a * 131 + b * 1117 + p * 29 + q * 53) 64)) n (xor_nn _ _ x0 (by omega) d0 (by omega)) (by omega)
      exact ⟨_, t0, t1, fun _ => rfl⟩
/-- What a reader's pick answers. -/
def pk (l : List Int) (p n : Int) : Int := ((spec_l6Rd_pick.f 1 l p n).getD (0, 0)).1
structure Rdr (l : List Int) : Prop where
  bytes : Bytes l
  len : l.length ≤ 2000
theorem pk_f {l : List Int} (h : Rdr l) (p n : Int) (k : Nat) (hp : 0 ≤ p) (hp' : p ≤ 1000000) (h1 : 1 ≤ n) (h2 : n ≤ 1000000) (hk : 1 ≤ k) : spec_l6Rd_pick.f k l p n = some (pk l p n, p + 1) := by
  obtain ⟨v, _, _, hv⟩ := pick_some l h.bytes h.len p n hp hp' h1 h2
  unfold pk
  rw [hv 0]
  obtain ⟨k, rfl⟩ : ∃ m, k = m + 1 := ⟨k - 1, by omega⟩
  rw [hv k]
  rfl
theorem pk_bd {l : List Int} (h : Rdr l) (p n : Int) (hp : 0 ≤ p) (hp' : p ≤ 1000000) (h1 : 1 ≤ n) (h2 : n ≤ 1000000) : 0 ≤ pk l p n ∧ pk l p n < n := by
  obtain ⟨v, h3, h4, hv⟩ := pick_some l h.bytes h.len p n hp hp' h1 h2
  unfold pk
  rw [hv 0]
  exact ⟨h3, h4⟩
theorem open_f (l : List Int) (hl : Bytes l) : ∃ s, spec_l6Open.f l = some (s, 0) ∧ Rdr s := by
  unfold spec_l6Open.f
  by_cases h : (l.length : Int) > 2000
  · rw [if_pos h, if_pos (by omega)]
    exact ⟨_, rfl, ⟨fun n hn => hl n (List.mem_of_mem_take hn), by simp; omega⟩⟩
  · rw [if_neg h]
    exact ⟨_, rfl, ⟨hl, by omega⟩⟩
theorem bytes_of {l : List Int} (h : ∀ n ∈ l, (Lit.int .u8 n).wf = true) : Bytes l := fun n hn => by
  have := h n hn
  simp [Lit.wf, IntKind.min, IntKind.max, IntKind.signed, IntKind.bits] at this
  omega
theorem rdOf_at (xs : List ByteArray) (i : Nat) (h : i < xs.length) : rdOf ByteArray.empty xs (i : Int) = xs[i] := by
  unfold rdOf
  rw [Int.toNat_natCast]
  simp [List.getD_eq_getElem?_getD, h]
def Lt5 : List ByteArray := [(⟨#[97]⟩ : ByteArray), (⟨#[98]⟩ : ByteArray), (⟨#[99]⟩ : ByteArray), (⟨#[97]⟩ : ByteArray), (⟨#[100]⟩ : ByteArray)]
theorem lt5_size : ∀ v : Nat, v < 5 → (rdOf ByteArray.empty Lt5 (v : Int)).size = 1 := by
  intro v hv
  have : v = 0 ∨ v = 1 ∨ v = 2 ∨ v = 3 ∨ v = 4 := by omega
  rcases this with rfl | rfl | rfl | rfl | rfl <;> rfl
theorem of_f {l : List Int} (h : Rdr l) (p : Int) (hp : 0 ≤ p) (hp' : p ≤ 1000000) : ∃ x : ByteArray, x.size = 1 ∧ ∀ k, 1 ≤ k → spec_l6Rd_of.f k l p Lt5 = some (x, p + 1) := by
  obtain ⟨v0, v1⟩ := pk_bd h p 5 hp hp' (by omega) (by omega)
  obtain ⟨v, hv⟩ : ∃ v : Nat, pk l p 5 = (v : Int) := ⟨(pk l p 5).toNat, by omega⟩
  refine ⟨rdOf ByteArray.empty Lt5 (pk l p 5), by rw [hv]; exact lt5_size v (by omega), fun k hk => ?_⟩
  unfold spec_l6Rd_of.f
  rw [show ((Lt5.length : Nat) : Int) = 5 from rfl, pk_f h p 5 k hp hp' (by omega) (by omega) hk, Option.bind_some]
  dsimp only
  rw [if_pos v0, if_pos v1]
def Small (n : Nat) (b : List ByteArray) : Prop := b.length ≤ n ∧ ∀ x ∈ b, x.size ≤ 5
/-- what the inner loop needs of the rest -/
theorem books_l1 {l : List Int} (h : Rdr l) (n pl e : Nat) (hn : n ≤ 5) (hpl : 1 ≤ pl ∧ pl ≤ 4)
    (ih : ∀ (i : Nat) (b : List ByteArray) (p : Int), i + e = n → b.length = i → (∀ x ∈ b, x.size = pl) → 0 ≤ p → p + e * 20 ≤ 1000 → ∃ c q, Small 5 c ∧ 0 ≤ q ∧ q ≤ 1010 ∧ ∀ k, e * 8 + 3 ≤ k → spec_l92Books.l0 k true b (n : Int) (pl : Int) (i : Int) l p = some (c, q)) :
    ∀ (d j i : Nat) (b : List ByteArray) (s : ByteArray) (p : Int), j + d = pl → i + 1 + e = n → b.length = i → (∀ x ∈ b, x.size = pl) → s.size = j → 0 ≤ p → p + d * 2 + 1 + e * 20 ≤ 1000 → ∃ c q, Small 5 c ∧ 0 ≤ q ∧ q ≤ 1010 ∧ ∀ k, d + 1 + (e * 8 + 3) ≤ k → spec_l92Books.l1 k true b (n : Int) (pl : Int) (i : Int) s (j : Int) l p = some (c, q) := by
  intro d
  induction d with
  | zero =>
    intro j i b s p hj hi hb hs hsj hp hp'
    obtain ⟨v0, v1⟩ := pk_bd h p 3 hp (by omega) (by omega) (by omega)
    have lit : ((⟨#[63, 63, 63, 63]⟩ : ByteArray).extract 0 (pl : Int).toNat).size = pl := by
      rw [Int.toNat_natCast, ByteArray.size_extract]
      have : (⟨#[63, 63, 63, 63]⟩ : ByteArray).size = 4 := rfl
      omega
    obtain ⟨c0, q0, h0, h1, h2, h3⟩ := ih (i + 1) (b ++ [(⟨#[63, 63, 63, 63]⟩ : ByteArray).extract 0 (pl : Int).toNat]) (p + 1) (by omega) (by simp [hb]) (by
      intro x hx
      rcases List.mem_append.1 hx with hx | hx
      · exact hs x hx
      · rw [List.mem_singleton.1 hx]; exact lit) (by omega) (by omega)
    obtain ⟨c1, q1, g0, g1, g2, g3⟩ := ih (i + 1) (b ++ [s]) (p + 1) (by omega) (by simp [hb]) (by
      intro x hx
      rcases List.mem_append.1 hx with hx | hx
      · exact hs x hx
      · rw [List.mem_singleton.1 hx]; omega) (by omega) (by omega)
    by_cases hz : pk l p 3 = 0
    · refine ⟨c0, q0, h0, h1, h2, fun k hk => ?_⟩
      obtain ⟨k, rfl⟩ : ∃ m, k = m + 1 := ⟨k - 1, by omega⟩
      simp only [spec_l92Books.l1]
      rw [if_neg (by omega), if_pos trivial, pk_f h p 3 k hp (by omega) (by omega) (by omega) (by omega), Option.bind_some]
      dsimp only
      rw [if_pos hz, if_pos (by omega), if_pos (by omega), if_pos (by omega), w1 (by omega)]
      exact h3 k (by omega)
    · refine ⟨c1, q1, g0, g1, g2, fun k hk => ?_⟩
      obtain ⟨k, rfl⟩ : ∃ m, k = m + 1 := ⟨k - 1, by omega⟩
      simp only [spec_l92Books.l1]
      rw [if_neg (by omega), if_pos trivial, pk_f h p 3 k hp (by omega) (by omega) (by omega) (by omega), Option.bind_some]
      dsimp only
      rw [if_neg hz, if_pos (by omega), w1 (by omega)]
      exact g3 k (by omega)
  | succ d ihd =>
    intro j i b s p hj hi hb hs hsj hp hp'
    obtain ⟨v0, v1⟩ := pk_bd h p 3 hp (by omega) (by omega) (by omega)
    -- a letter at pointer p' (p or p + 1)
    have letter : ∀ p', p ≤ p' → p' ≤ p + 1 → ∃ c q, Small 5 c ∧ 0 ≤ q ∧ q ≤ 1010 ∧ ∀ k, d + 1 + (e * 8 + 3) ≤ k → ((spec_l6Rd_of.f k l p' Lt5).bind fun bt131 => (if s.size + bt131.1.size ≤ 9223372036854775807 then (spec_l92Books.l1 k true b (n : Int) (pl : Int) (i : Int) (s ++ bt131.1) (wrap64 ((j : Int) + 1)) l bt131.2) else (none))) = some (c, q) := by
      intro p' a0 a1
      obtain ⟨x, hx, hxf⟩ := of_f h p' (by omega) (by omega)
      obtain ⟨c, q, b0, b1, b2, b3⟩ := ihd (j + 1) i b (s ++ x) (p' + 1) (by omega) hi hb hs (by rw [ByteArray.size_append]; omega) (by omega) (by omega)
      refine ⟨c, q, b0, b1, b2, fun k hk => ?_⟩
      rw [hxf k (by omega), Option.bind_some]
      dsimp only
      rw [if_pos (by omega), w1 (by omega)]
      exact b3 k (by omega)
    by_cases hi0 : i = 0
    · obtain ⟨c, q, b0, b1, b2, b3⟩ := letter p (by omega) (by omega)
      refine ⟨c, q, b0, b1, b2, fun k hk => ?_⟩
      obtain ⟨k, rfl⟩ : ∃ m, k = m + 1 := ⟨k - 1, by omega⟩
      simp only [spec_l92Books.l1]
      rw [if_pos (by omega), if_neg (by omega)]
      exact b3 k (by omega)
    · by_cases hz : pk l p 3 = 0
      · obtain ⟨c, q, b0, b1, b2, b3⟩ := letter (p + 1) (by omega) (by omega)
        refine ⟨c, q, b0, b1, b2, fun k hk => ?_⟩
        obtain ⟨k, rfl⟩ : ∃ m, k = m + 1 := ⟨k - 1, by omega⟩
        simp only [spec_l92Books.l1]
        rw [if_pos (by omega), if_pos (by omega), pk_f h p 3 k hp (by omega) (by omega) (by omega) (by omega), Option.bind_some]
        dsimp only
        rw [if_neg (by omega)]
        exact b3 k (by omega)
      · obtain ⟨i', rfl⟩ : ∃ i', i = i' + 1 := ⟨i - 1, by omega⟩
        have hbi : rdOf ByteArray.empty b (i' : Int) = b[i']'(by omega) := rdOf_at b i' (by omega)
        have hsz : (rdOf ByteArray.empty b (i' : Int)).size = pl := by rw [hbi]; exact hs _ (List.getElem_mem _)
        have ew : wrap64 (((i' + 1 : Nat) : Int) - 1) = (i' : Int) := by unfold wrap64; omega
        by_cases hq : bt (rdOf ByteArray.empty b (i' : Int)) (j : Int) = 63
        · obtain ⟨c, q, b0, b1, b2, b3⟩ := letter (p + 1) (by omega) (by omega)
          refine ⟨c, q, b0, b1, b2, fun k hk => ?_⟩
          obtain ⟨k, rfl⟩ : ∃ m, k = m + 1 := ⟨k - 1, by omega⟩
          simp only [spec_l92Books.l1]
          rw [if_pos (by omega), if_pos (by omega), pk_f h p 3 k hp (by omega) (by omega) (by omega) (by omega), Option.bind_some]
          dsimp only
          rw [if_pos (by omega), ew, if_pos (by omega), if_pos (by omega), if_pos (by omega), if_pos (by omega), if_pos hq]
          exact b3 k (by omega)
        · have hex : ((rdOf ByteArray.empty b (i' : Int)).extract (j : Int).toNat ((j + 1 : Nat) : Int).toNat).size = 1 := by
            rw [ByteArray.size_extract, Int.toNat_natCast, Int.toNat_natCast]; omega
          obtain ⟨c, q, b0, b1, b2, b3⟩ := ihd (j + 1) (i' + 1) b (s ++ (rdOf ByteArray.empty b (i' : Int)).extract (j : Int).toNat ((j + 1 : Nat) : Int).toNat) (p + 1) (by omega) hi hb hs (by rw [ByteArray.size_append, hex, hsj]) (by omega) (by omega)
          refine ⟨c, q, b0, b1, b2, fun k hk => ?_⟩
          obtain ⟨k, rfl⟩ : ∃ m, k = m + 1 := ⟨k - 1, by omega⟩
          simp only [spec_l92Books.l1]
          rw [if_pos (by omega), if_pos (by omega), pk_f h p 3 k hp (by omega) (by omega) (by omega) (by omega), Option.bind_some]
          dsimp only
          rw [if_pos (by omega), ew, if_pos (by omega), if_pos (by omega), if_pos (by omega), if_pos (by omega), if_neg hq, w1 (by omega), if_pos (by omega), if_pos (by omega), if_pos (by omega)]
          exact b3 k (by omega)
theorem books_l0 {l : List Int} (h : Rdr l) (n pl : Nat) (hn : 1 ≤ n ∧ n ≤ 5) (hpl : 1 ≤ pl ∧ pl ≤ 4) : ∀ (e i : Nat) (b : List ByteArray) (p : Int), i + e = n → b.length = i → (∀ x ∈ b, x.size = pl) → 0 ≤ p → p + e * 20 ≤ 1000 → ∃ c q, Small 5 c ∧ 0 ≤ q ∧ q ≤ 1010 ∧ ∀ k, e * 8 + 3 ≤ k → spec_l92Books.l0 k true b (n : Int) (pl : Int) (i : Int) l p = some (c, q) := by
  intro e
  induction e with
  | zero =>
    intro i b p hi hb hs hp hp'
    have hb5 : Small 5 b := ⟨by omega, fun x hx => by have := hs x hx; omega⟩
    obtain ⟨v0, v1⟩ := pk_bd h p 40 hp (by omega) (by omega) (by omega)
    have key : ∃ c, Small 5 c ∧ ∀ k, 1 ≤ k → spec_l92Books.l0 (k + 1) true b (n : Int) (pl : Int) (i : Int) l p = some (c, p + 1) := by
      by_cases z0 : pk l p 40 = 0
      · refine ⟨b.set (0 : Int).toNat (rdOf ByteArray.empty b 0 ++ (⟨#[97]⟩ : ByteArray)), ⟨by rw [List.length_set]; exact hb5.1, ?_⟩, fun k hk => ?_⟩
        rotate_left
        · simp only [spec_l92Books.l0]
          rw [if_neg (by omega), pk_f h p 40 k hp (by omega) (by omega) (by omega) hk, Option.bind_some]
          dsimp only
          have e0 : rdOf ByteArray.empty b 0 = b[0]'(by omega) := rdOf_at b 0 (by omega)
          have s0 : (rdOf ByteArray.empty b 0).size = pl := by rw [e0]; exact hs _ (List.getElem_mem _)
          rw [if_pos z0, if_pos (by omega), if_pos (by omega)]
        · intro x hx
          rcases List.mem_or_eq_of_mem_set hx with hx | rfl
          · exact hb5.2 x hx
          · have e0 : rdOf ByteArray.empty b 0 = b[0]'(by omega) := rdOf_at b 0 (by omega)
            rw [ByteArray.size_append, e0]
            have := hs _ (List.getElem_mem (show 0 < b.length by omega))
            have : (⟨#[97]⟩ : ByteArray).size = 1 := rfl
            omega
      · by_cases z1 : pk l p 40 = 1
        · obtain ⟨m, rfl⟩ : ∃ m, n = m + 1 := ⟨n - 1, by omega⟩
          have ew : wrap64 (((m + 1 : Nat) : Int) - 1) = (m : Int) := by unfold wrap64; omega
          have e0 : rdOf ByteArray.empty b (m : Int) = b[m]'(by omega) := rdOf_at b m (by omega)
          have s0 : (rdOf ByteArray.empty b (m : Int)).size = pl := by rw [e0]; exact hs _ (List.getElem_mem _)
          have s1 : ((rdOf ByteArray.empty b (m : Int)).extract 1 (rdOf ByteArray.empty b (m : Int)).size).size = pl - 1 := by rw [ByteArray.size_extract]; omega
          refine ⟨b.set (m : Int).toNat ((⟨#[101]⟩ : ByteArray) ++ (rdOf ByteArray.empty b (m : Int)).extract 1 (rdOf ByteArray.empty b (m : Int)).size), ⟨by rw [List.length_set]; exact hb5.1, ?_⟩, fun k hk => ?_⟩
          rotate_left
          · simp only [spec_l92Books.l0]
            rw [if_neg (by omega), pk_f h p 40 k hp (by omega) (by omega) (by omega) hk, Option.bind_some]
            dsimp only
            rw [if_neg z0, if_pos z1, ew, if_pos (by omega), if_pos (by omega), if_pos (by omega), if_pos (by omega)]
          · intro x hx
            rcases List.mem_or_eq_of_mem_set hx with hx | rfl
            · exact hb5.2 x hx
            · rw [ByteArray.size_append, s1]
              have : (⟨#[101]⟩ : ByteArray).size = 1 := rfl
              omega
        · by_cases z2 : pk l p 40 = 2
          · refine ⟨[], ⟨by simp, fun x hx => absurd hx (List.not_mem_nil)⟩, fun k hk => ?_⟩
            simp only [spec_l92Books.l0]
            rw [if_neg (by omega), pk_f h p 40 k hp (by omega) (by omega) (by omega) hk, Option.bind_some]
            dsimp only
            rw [if_neg z0, if_neg z1, if_pos z2]
          · refine ⟨b, hb5, fun k hk => ?_⟩
            simp only [spec_l92Books.l0]
            rw [if_neg (by omega), pk_f h p 40 k hp (by omega) (by omega) (by omega) hk, Option.bind_some]
            dsimp only
            rw [if_neg z0, if_neg z1, if_neg z2]
    obtain ⟨c, hc, hk⟩ := key
    refine ⟨c, p + 1, hc, by omega, by omega, fun k hk' => ?_⟩
    obtain ⟨k, rfl⟩ : ∃ m, k = m + 1 := ⟨k - 1, by omega⟩
    exact hk k (by omega)
  | succ e ih =>
    intro i b p hi hb hs hp hp'
    obtain ⟨c, q, b0, b1, b2, b3⟩ := books_l1 h n pl e hn.2 hpl ih pl 0 i b ⟨#[]⟩ p (by omega) (by omega) hb hs rfl hp (by omega)
    refine ⟨c, q, b0, b1, b2, fun k hk => ?_⟩
    obtain ⟨k, rfl⟩ : ∃ m, k = m + 1 := ⟨k - 1, by omega⟩
    simp only [spec_l92Books.l0]
    rw [if_pos (by omega)]
    exact b3 k (by omega)
theorem stem_l0 {l : List Int} (h : Rdr l) (b : List ByteArray) (hb : b.length ≤ 5) : ∀ (d i : Nat) (s : List Int) (p : Int), i + d = b.length → s.length = i → 0 ≤ p → p + d ≤ 2000 → ∃ t q, t.length ≤ 5 ∧ ∀ k, d + 3 ≤ k → spec_l92Stem.l0 k b s (i : Int) l p = some (b, t, q) := by
  intro d
  induction d with
  | zero =>
    intro i s p hi hs hp hp'
    by_cases h0 : s.length = 0
    · refine ⟨s, p, by omega, fun k hk => ?_⟩
      obtain ⟨k, rfl⟩ : ∃ m, k = m + 1 := ⟨k - 1, by omega⟩
      simp only [spec_l92Stem.l0]
      rw [if_neg (by omega), if_neg (by omega)]
    · obtain ⟨v0, v1⟩ := pk_bd h p 30 hp (by omega) (by omega) (by omega)
      by_cases z0 : pk l p 30 = 0
      · obtain ⟨u0, u1⟩ := pk_bd h (p + 1) 3 (by omega) (by omega) (by omega) (by omega)
        have ew : wrap64 ((s.length : Int) - 1) = ((s.length - 1 : Nat) : Int) := by unfold wrap64; omega
        refine ⟨s.set ((s.length - 1 : Nat) : Int).toNat (rd [-2, (s.length : Int), -1] (pk l (p + 1) 3)), p + 1 + 1, by rw [List.length_set]; omega, fun k hk => ?_⟩
        · obtain ⟨k, rfl⟩ : ∃ m, k = m + 1 := ⟨k - 1, by omega⟩
          simp only [spec_l92Stem.l0]
          rw [if_neg (by omega), if_pos (by omega), pk_f h p 30 k hp (by omega) (by omega) (by omega) (by omega), Option.bind_some]
          dsimp only
          rw [if_pos z0, Option.bind_some, pk_f h (p + 1) 3 k (by omega) (by omega) (by omega) (by omega) (by omega), Option.bind_some]
          dsimp only
          rw [if_pos u0, if_pos (by simpa using u1), ew, if_pos (by omega), if_pos (by omega)]
      · by_cases z1 : pk l p 30 = 1
        · refine ⟨s.drop (1 : Int).toNat, p + 1, by simp; omega, fun k hk => ?_⟩
          obtain ⟨k, rfl⟩ : ∃ m, k = m + 1 := ⟨k - 1, by omega⟩
          simp only [spec_l92Stem.l0]
          rw [if_neg (by omega), if_pos (by omega), pk_f h p 30 k hp (by omega) (by omega) (by omega) (by omega), Option.bind_some]
          dsimp only
          rw [if_neg z0, if_pos z1, if_pos (by omega)]
        · refine ⟨s, p + 1, by omega, fun k hk => ?_⟩
          obtain ⟨k, rfl⟩ : ∃ m, k = m + 1 := ⟨k - 1, by omega⟩
          simp only [spec_l92Stem.l0]
          rw [if_neg (by omega), if_pos (by omega), pk_f h p 30 k hp (by omega) (by omega) (by omega) (by omega), Option.bind_some]
          dsimp only
          rw [if_neg z0, if_neg z1]
  | succ d ih =>
    intro i s p hi hs hp hp'
    by_cases h0 : i = 0
    · obtain ⟨t, q, ht, hq⟩ := ih (i + 1) (s ++ [-1]) p (by omega) (by simp [hs]) hp (by omega)
      refine ⟨t, q, ht, fun k hk => ?_⟩
      obtain ⟨k, rfl⟩ : ∃ m, k = m + 1 := ⟨k - 1, by omega⟩
      simp only [spec_l92Stem.l0]
      rw [if_pos (by omega), if_pos (by omega), if_pos (by omega), w1 (by omega)]
      exact hq k (by omega)
    · obtain ⟨t, q, ht, hq⟩ := ih (i + 1) (s ++ [pk l p (i : Int)]) (p + 1) (by omega) (by simp [hs]) (by omega) (by omega)
      refine ⟨t, q, ht, fun k hk => ?_⟩
      obtain ⟨k, rfl⟩ : ∃ m, k = m + 1 := ⟨k - 1, by omega⟩
      simp only [spec_l92Stem.l0]
      rw [if_pos (by omega), if_neg (by omega), pk_f h p (i : Int) k hp (by omega) (by omega) (by omega) (by omega), Option.bind_some]
      dsimp only
      rw [if_pos (by omega), w1 (by omega)]
      exact hq k (by omega)
theorem stem_d (l0 : List Int) (hl : Bytes l0) : ∃ b s, Small 5 b ∧ s.length ≤ 5 ∧ ∀ k, 60 ≤ k → spec_DrawStemFill.f k l0 = some (b, s) := by
  obtain ⟨l, ho, h⟩ := open_f l0 hl
  obtain ⟨v0, v1⟩ := pk_bd h 0 5 (by omega) (by omega) (by omega) (by omega)
  obtain ⟨u0, u1⟩ := pk_bd h (0 + 1) 4 (by omega) (by omega) (by omega) (by omega)
  obtain ⟨n, hn⟩ : ∃ n : Nat, wrap64 (1 + pk l 0 5) = (n : Int) := ⟨(1 + pk l 0 5).toNat, by unfold wrap64; omega⟩
  obtain ⟨pl, hpl⟩ : ∃ n : Nat, wrap64 (1 + pk l (0 + 1) 4) = (n : Int) := ⟨(1 + pk l (0 + 1) 4).toNat, by unfold wrap64; omega⟩
  have hn' : 1 ≤ n ∧ n ≤ 5 := by unfold wrap64 at hn; omega
  have hpl' : 1 ≤ pl ∧ pl ≤ 4 := by unfold wrap64 at hpl; omega
  obtain ⟨b, q, hb, q0, q1, hq⟩ := books_l0 h n pl hn' hpl' n 0 [] (0 + 1 + 1) (by omega) rfl (fun x hx => absurd hx (List.not_mem_nil)) (by omega) (by omega)
  obtain ⟨s, r, hs, hr⟩ := stem_l0 h b hb.1 b.length 0 [] q (by omega) rfl q0 (by have := hb.1; omega)
  refine ⟨b, s, hb, hs, fun k hk => ?_⟩
  unfold spec_DrawStemFill.f
  rw [ho, Option.bind_some]
  dsimp only
  unfold spec_l92Stem.f spec_l92Books.f
  rw [pk_f h 0 5 k (by omega) (by omega) (by omega) (by omega) (by omega), Option.bind_some]
  dsimp only
  rw [pk_f h (0 + 1) 4 k (by omega) (by omega) (by omega) (by omega) (by omega), Option.bind_some]
  dsimp only
  have hqk : spec_l92Books.l0 k true [] (n : Int) (pl : Int) 0 l (0 + 1 + 1) = some (b, q) := hq k (by omega)
  have hrk : spec_l92Stem.l0 k b [] 0 l q = some (b, s, r) := hr k (by have := hb.1; omega)
  rw [hn, hpl]
  rw [hqk, Option.bind_some]
  dsimp only
  rw [hrk, Option.bind_some]
def rdgB (x : ByteArray) : Bool := decide (∀ j, j < x.size → 97 ≤ bt x (j : Int) ∧ bt x (j : Int) ≤ 100)
def lstB (x : ByteArray) : Bool := decide (∀ j, j < x.size → bt x (j : Int) = 63)
theorem rdg_l0 (x : ByteArray) (hx : x.size ≤ 100) : ∀ (d i k : Nat), i + d = x.size → d + 1 ≤ k → spec_l7Reading.l0 k x (i : Int) = some (decide (∀ j, j < x.size → i ≤ j → 97 ≤ bt x (j : Int) ∧ bt x (j : Int) ≤ 100)) := by
  intro d
  induction d with
  | zero =>
    intro i k hi hk
    obtain ⟨k, rfl⟩ : ∃ m, k = m + 1 := ⟨k - 1, by omega⟩
    simp only [spec_l7Reading.l0]
    rw [if_neg (by omega), decide_eq_true (fun j h1 h2 => by omega)]
  | succ d ih =>
    intro i k hi hk
    obtain ⟨k, rfl⟩ : ∃ m, k = m + 1 := ⟨k - 1, by omega⟩
    simp only [spec_l7Reading.l0]
    rw [if_pos (by omega), if_pos (by omega)]
    by_cases h1 : bt x (i : Int) < 97
    · rw [if_pos h1, decide_eq_false (fun h => by have := h i (by omega) (by omega); omega)]
    · rw [if_neg h1]
      by_cases h2 : bt x (i : Int) > 100
      · rw [if_pos h2, decide_eq_false (fun h => by have := h i (by omega) (by omega); omega)]
      · rw [if_neg h2, w1 (by omega), ih (i + 1) k (by omega) (by omega)]
        congr 1
        refine decide_eq_decide.2 ⟨fun h j g1 g2 => ?_, fun h j g1 g2 => h j g1 (by omega)⟩
        by_cases e : j = i
        · subst e; omega
        · exact h j g1 (by omega)
theorem rdg_f (x : ByteArray) (hx : x.size ≤ 100) (k : Nat) (hk : 101 ≤ k) : spec_l7Reading.f k x = some (rdgB x) := by
  unfold spec_l7Reading.f rdgB
  rw [show (0 : Int) = ((0 : Nat) : Int) from rfl, rdg_l0 x hx x.size 0 k (by omega) (by omega)]
  congr 1
  exact decide_eq_decide.2 ⟨fun h j g => h j g (by omega), fun h j g _ => h j g⟩
theorem lst_l0 (x : ByteArray) (hx : x.size ≤ 100) : ∀ (d i k : Nat), i + d = x.size → d + 1 ≤ k → spec_l7Lost.l0 k x (i : Int) = some (decide (∀ j, j < x.size → i ≤ j → bt x (j : Int) = 63)) := by
  intro d
  induction d with
  | zero =>
    intro i k hi hk
    obtain ⟨k, rfl⟩ : ∃ m, k = m + 1 := ⟨k - 1, by omega⟩
    simp only [spec_l7Lost.l0]
    rw [if_neg (by omega), decide_eq_true (fun j h1 h2 => by omega)]
  | succ d ih =>
    intro i k hi hk
    obtain ⟨k, rfl⟩ : ∃ m, k = m + 1 := ⟨k - 1, by omega⟩
    simp only [spec_l7Lost.l0]
    rw [if_pos (by omega), if_pos (by omega)]
    by_cases h1 : bt x (i : Int) = 63
    · rw [if_pos h1, w1 (by omega), ih (i + 1) k (by omega) (by omega)]
      congr 1
      refine decide_eq_decide.2 ⟨fun h j g1 g2 => ?_, fun h j g1 g2 => h j g1 (by omega)⟩
      by_cases e : j = i
      · subst e; exact h1
      · exact h j g1 (by omega)
    · rw [if_neg h1, decide_eq_false (fun h => h1 (h i (by omega) (by omega)))]
theorem lst_f (x : ByteArray) (hx : x.size ≤ 100) (k : Nat) (hk : 101 ≤ k) : spec_l7Lost.f k x = some (lstB x) := by
  unfold spec_l7Lost.f lstB
  rw [show (0 : Int) = ((0 : Nat) : Int) from rfl, lst_l0 x hx x.size 0 k (by omega) (by omega)]
  congr 1
  exact decide_eq_decide.2 ⟨fun h j g => h j g (by omega), fun h j g _ => h j g⟩
theorem bt_get (x : ByteArray) (j : Nat) (h : j < x.size) : bt x (j : Int) = ((x.data.toList[j]'(by simpa using h)).toNat : Int) := by
  unfold bt
  rw [dif_pos (show (j : Int).toNat < x.size by omega)]
  simp
  rfl
theorem all_bt (x : ByteArray) (P : Int → Prop) : (∀ j, j < x.size → P (bt x (j : Int))) ↔ ∀ b ∈ x.data.toList, P (b.toNat : Int) := by
  constructor
  · intro h b hb
    obtain ⟨j, hj, rfl⟩ := List.getElem_of_mem hb
    have hj' : j < x.size := by simpa using hj
    have := h j hj'
    rwa [bt_get x j hj'] at this
  · intro h j hj
    rw [bt_get x j hj]
    exact h _ (List.getElem_mem _)
theorem dw_nil {α : Type} (p : α → Bool) : ∀ l : List α, l.dropWhile p = [] ↔ ∀ b ∈ l, p b = true
  | [] => by simp
  | a :: l => by
    rw [List.dropWhile_cons]
    cases h : p a with
    | true => rw [if_pos rfl, dw_nil p l]; simp [h]
    | false => simp [h]
theorem dwr_nil {α : Type} (p : α → Bool) (l : List α) : (l.reverse.dropWhile p).reverse = [] ↔ ∀ b ∈ l, p b = true := by
  rw [List.reverse_eq_nil_iff, dw_nil]
  simp
theorem dw_mem {α : Type} (p : α → Bool) (l : List α) : (∀ b ∈ l.dropWhile p, p b = true) ↔ ∀ b ∈ l, p b = true := by
  rw [← dw_nil]
  constructor
  · intro h b hb
    have h2 : l.dropWhile p = [] := by
      cases e : l.dropWhile p with
      | nil => rfl
      | cons a r =>
        have h3 : (a :: r).dropWhile p = [] := by rw [← e]; exact h
        have h4 : p a = true := (dw_nil p (a :: r)).1 h3 a (List.mem_cons_self ..)
        have h5 := List.head_dropWhile_not p (l := l) (by rw [e]; simp)
        simp only [e, List.head_cons] at h5
        rw [h4] at h5
        cases h5
    exact (dw_nil p l).1 h2 b hb
  · intro h
    rw [dw_nil]
    intro b hb
    exact h b ((List.dropWhile_sublist p).subset hb)
theorem nil_mk (l : List UInt8) : ((⟨l.toArray⟩ : ByteArray).toList = []) ↔ l = [] := by
  rw [toList_nil_iff_emptyBytes]
  constructor
  · intro h
    have h2 : (⟨l.toArray⟩ : ByteArray).data = ByteArray.empty.data := by rw [h]
    have h3 : l.toArray = #[] := h2
    simpa using h3
  · rintro rfl
    rfl
theorem nil_size (x : ByteArray) : (x.toList = []) ↔ x.size = 0 := by
  obtain ⟨⟨l⟩⟩ := x
  rw [nil_mk]
  exact List.length_eq_zero_iff.symm
theorem isL_iff (x : ByteArray) (hx : x.size ≤ 1000) : isL x = true ↔ x.size ≠ 0 ∧ lstB x = true := by
  have h := isLost_some x hx
  unfold impl_isLost.f at h
  by_cases h0 : x.toList = ([] : List UInt8)
  · rw [if_pos h0] at h
    rw [← Option.some.inj h]
    rw [nil_size] at h0
    simp [h0]
  · rw [if_neg h0] at h
    unfold strings_Trim.f at h
    rw [if_pos hx, if_pos rfl, Option.bind_some] at h
    rw [← Option.some.inj h, beq_iff_eq]
    rw [nil_size] at h0
    have e : (trimQ x).toList = [] ↔ lstB x = true := by
      unfold trimQ
      rw [nil_mk]
      unfold Lib.trimB Lib.trimLeftB Lib.trimRightB lstB
      rw [dw_nil, decide_eq_true_eq, all_bt x (fun v => v = 63)]
      constructor
      · intro h b hb
        have h1 := (dw_mem (· == 63) x.data.toList.reverse).1 (fun c hc => h c (List.mem_reverse.2 hc)) b (List.mem_reverse.2 hb)
        rw [eq_of_beq h1]
        rfl
      · intro h b hb
        have h1 := h b (List.mem_reverse.1 ((List.dropWhile_sublist _).subset (List.mem_reverse.1 hb)))
        have h2 : b.toNat = 63 := by omega
        exact beq_iff_eq.2 (UInt8.toNat_inj.1 h2)
    rw [e]
    exact ⟨fun h => ⟨h0, h⟩, fun h => h.2⟩
theorem in4_iff (b : UInt8) : in4 b = true ↔ (97 : Int) ≤ (b.toNat : Int) ∧ (b.toNat : Int) ≤ 100 := by
  unfold in4
  simp only [Bool.or_eq_true, beq_iff_eq, ← UInt8.toNat_inj]
  have h1 : (97 : UInt8).toNat = 97 := rfl
  have h2 : (98 : UInt8).toNat = 98 := rfl
  have h3 : (99 : UInt8).toNat = 99 := rfl
  have h4 : (100 : UInt8).toNat = 100 := rfl
  rw [h1, h2, h3, h4]
  omega
theorem trimA_iff (x : ByteArray) : ((trimA x).toList = []) ↔ rdgB x = true := by
  unfold trimA
  rw [nil_mk]
  unfold lT rT rdgB
  rw [dw_nil, decide_eq_true_eq, all_bt x (fun v => 97 ≤ v ∧ v ≤ 100)]
  constructor
  · intro h b hb
    have h1 := (dw_mem in4 x.data.toList.reverse).1 (fun c hc => h c (List.mem_reverse.2 hc)) b (List.mem_reverse.2 hb)
    exact (in4_iff b).1 h1
  · intro h b hb
    exact (in4_iff b).2 (h b (List.mem_reverse.1 ((List.dropWhile_sublist _).subset (List.mem_reverse.1 hb))))
/-! lists of manuscripts -/
def okX (m : Nat) (x : ByteArray) : Bool := decide (x.size = m) && (rdgB x || lstB x)
def cntL : List ByteArray → Int
  | [] => 0
  | x :: r => (if lstB x = true then 1 else 0) + cntL r
def LB (b : List ByteArray) : Int × Bool := if 1 ≤ b.length ∧ b.length ≤ 6 ∧ 1 ≤ (rdOf ByteArray.empty b 0).size ∧ (rdOf ByteArray.empty b 0).size ≤ 8 ∧ b.all (okX (rdOf ByteArray.empty b 0).size) = true then (cntL b, true) else (0, false)
theorem cntL_bd : ∀ b : List ByteArray, 0 ≤ cntL b ∧ cntL b ≤ b.length
  | [] => by simp [cntL]
  | x :: r => by
    have := cntL_bd r
    rw [cntL, List.length_cons]
    split <;> omega
theorem books_l7 (b : List ByteArray) (hb : Small 5 b) (m : Nat) (h0 : 0 < b.length) (hm : m = (rdOf ByteArray.empty b 0).size) : ∀ (d i k : Nat) (c : Int), i + d = b.length → d * 2 + 120 ≤ k → 0 ≤ c → c ≤ i → spec_l7Books.l0 k b c (i : Int) = some (if (b.drop i).all (okX m) = true then (c + cntL (b.drop i), true) else (0, false)) := by
  intro d
  induction d with
  | zero =>
    intro i k c hi hk hc hc'
    obtain ⟨k, rfl⟩ : ∃ m, k = m + 1 := ⟨k - 1, by omega⟩
    simp only [spec_l7Books.l0]
    rw [if_neg (by omega), List.drop_eq_nil_of_le (by omega)]
    simp [cntL]
  | succ d ih =>
    intro i k c hi hk hc hc'
    obtain ⟨k, rfl⟩ : ∃ m, k = m + 1 := ⟨k - 1, by omega⟩
    have hlt : i < b.length := by omega
    have hb5 := hb.1
    have hsz : b[i].size ≤ 100 := Nat.le_trans (hb.2 _ (List.getElem_mem hlt)) (by omega)
    have hd : b.drop i = b[i] :: b.drop (i + 1) := List.drop_eq_getElem_cons hlt
    have j2 : ∀ bad : Bool, spec_l7Books.j2 k b c (i : Int) bad = some (if bad = true then (0, false) else (if (b.drop (i + 1)).all (okX m) = true then ((c + if lstB b[i] = true then 1 else 0) + cntL (b.drop (i + 1)), true) else (0, false))) := by
      intro bad
      obtain ⟨k, rfl⟩ : ∃ m, k = m + 1 := ⟨k - 1, by omega⟩
      simp only [spec_l7Books.j2]
      cases bad with
      | true => rfl
      | false =>
        simp only [Bool.false_eq_true, if_false]
        rw [if_pos (by omega), if_pos (by omega), rdOf_at b i hlt, lst_f _ hsz k (by omega), Option.bind_some]
        cases hl : lstB b[i] with
        | true =>
          simp only [if_true]
          rw [w0 (by omega) (by omega), w1 (by omega), ih (i + 1) k (c + 1) (by omega) (by omega) (by omega) (by omega)]
        | false =>
          simp only [Bool.false_eq_true, if_false]
          rw [w1 (by omega), ih (i + 1) k c (by omega) (by omega) (by omega) (by omega), Int.add_zero]
    simp only [spec_l7Books.l0]
    rw [if_pos (by omega), if_pos (by omega), if_pos (by omega), rdOf_at b i hlt, ← hm, hd, List.all_cons, cntL]
    by_cases hs : (b[i].size : Int) = (m : Int)
    · rw [if_pos hs, rdg_f _ hsz k (by omega), Option.bind_some, lst_f _ hsz k (by omega)]
      have hs' : b[i].size = m := by omega
      unfold okX
      rw [decide_eq_true hs', Bool.true_and]
      cases hr : rdgB b[i] with
      | true =>
        rw [if_pos rfl, j2 false, if_neg (by decide), Bool.true_or, Bool.true_and, Int.add_assoc]
        rfl
      | false =>
        rw [if_neg (by decide), Option.bind_some, j2]
        cases hl : lstB b[i] with
        | true =>
          rw [if_neg (by decide), Bool.false_or, Bool.true_and, Int.add_assoc]
          rfl
        | false => rfl
    · rw [if_neg hs, j2 true, if_pos rfl]
      unfold okX
      rw [decide_eq_false (by omega), Bool.false_and, Bool.false_and, if_neg (by decide)]
theorem bks_f (b : List ByteArray) (hb : Small 5 b) (k : Nat) (hk : 200 ≤ k) : spec_l7Books.f k b = some (LB b) := by
  have hb5 := hb.1
  unfold spec_l7Books.f spec_l6In.f LB
  by_cases h0 : b.length = 0
  · rw [if_neg (by omega), Option.bind_some, if_neg (by decide), if_neg (by omega)]
    obtain ⟨k, rfl⟩ : ∃ m, k = m + 1 := ⟨k - 1, by omega⟩
    rfl
  · rw [if_pos (by omega), Option.bind_some, if_pos (decide_eq_true (by omega)), if_pos (by omega)]
    obtain ⟨k, rfl⟩ : ∃ m, k = m + 1 := ⟨k - 1, by omega⟩
    by_cases h1 : 1 ≤ (rdOf ByteArray.empty b 0).size
    · rw [if_pos (by omega), Option.bind_some]
      have h8 : (rdOf ByteArray.empty b 0).size ≤ 5 := by
        have e := rdOf_at b 0 (by omega)
        rw [show ((0 : Nat) : Int) = 0 from rfl] at e
        rw [e]
        exact hb.2 _ (List.getElem_mem _)
      rw [decide_eq_true (by omega)]
      simp only [spec_l7Books.j0]
      have e : spec_l7Books.l0 k b 0 0 = _ := books_l7 b hb _ (by omega) rfl b.length 0 k 0 (by omega) (by omega) (by omega) (by omega)
      rw [if_neg (by decide), e, List.drop_zero]
      congr 1
      by_cases ha : b.all (okX (rdOf ByteArray.empty b 0).size) = true
      · rw [if_pos ha, if_pos ⟨by omega, by omega, h1, by omega, ha⟩]
        simp
      · rw [if_neg ha, if_neg (fun h => ha h.2.2.2.2)]
    · rw [if_neg (by omega), Option.bind_some, if_neg (by omega)]
      rfl
theorem lost_j2 (b : List ByteArray) (c n i : Int) (x : ByteArray) (k : Nat) (hk : 1 ≤ k) : impl_lostOf.j2 k b c x b n i true = some (0, false) := by
  obtain ⟨k, rfl⟩ : ∃ m, k = m + 1 := ⟨k - 1, by omega⟩
  simp only [impl_lostOf.j2]
  rfl
theorem lost_l0 (b : List ByteArray) (hb : Small 5 b) (m : Nat) (h0 : 0 < b.length) (hm : m = (rdOf ByteArray.empty b 0).size) (hm1 : 1 ≤ m) : ∀ (d i k : Nat) (c : Int), i + d = b.length → d * 2 + 20 ≤ k → 0 ≤ c → c ≤ i → impl_lostOf.l0 k b c b (b.length : Int) (i : Int) = some (if (b.drop i).all (okX m) = true then (c + cntL (b.drop i), true) else (0, false)) := by
  intro d
  induction d with
  | zero =>
    intro i k c hi hk hc hc'
    obtain ⟨k, rfl⟩ : ∃ m, k = m + 1 := ⟨k - 1, by omega⟩
    simp only [impl_lostOf.l0]
    rw [if_neg (by omega), List.drop_eq_nil_of_le (by omega)]
    simp [cntL]
  | succ d ih =>
    intro i k c hi hk hc hc'
    obtain ⟨k, rfl⟩ : ∃ m, k = m + 1 := ⟨k - 1, by omega⟩
    have hlt : i < b.length := by omega
    have hb5 := hb.1
    have hsz : b[i].size ≤ 5 := hb.2 _ (List.getElem_mem hlt)
    have hd : b.drop i = b[i] :: b.drop (i + 1) := List.drop_eq_getElem_cons hlt
    simp only [impl_lostOf.l0]
    rw [if_pos (by omega), if_pos (by omega), if_pos (by omega), if_pos (by omega), rdOf_at b i hlt, ← hm, hd, List.all_cons, cntL]
    by_cases hs : (b[i].size : Int) = (m : Int)
    · have hs' : b[i].size = m := by omega
      rw [if_pos hs, if_neg (show ¬ b[i].toList = ([] : List UInt8) by rw [nil_size]; omega), decide_eq_false (show ¬ (b[i].size : Int) > 8 by omega)]
      have hok : okX m b[i] = (rdgB b[i] || lstB b[i]) := by unfold okX; rw [decide_eq_true hs', Bool.true_and]
      rw [hok]
      obtain ⟨k, rfl⟩ : ∃ m, k = m + 1 := ⟨k - 1, by omega⟩
      simp only [impl_lostOf.j2]
      rw [if_neg (by decide), isLost_some b[i] (by omega), Option.bind_some]
      have hi2 := isL_iff b[i] (by omega)
      cases hl : lstB b[i] with
      | true =>
        rw [if_pos (hi2.2 ⟨by omega, hl⟩), w0 (by omega) (by omega), w1 (by omega), ih (i + 1) k (c + 1) (by omega) (by omega) (by omega) (by omega), Bool.or_true, Bool.true_and, Int.add_assoc]
        rfl
      | false =>
        rw [if_neg (fun h => by rw [(hi2.1 h).2] at hl; cases hl)]
        unfold strings_Trim.f
        rw [if_pos (by omega), if_neg (by decide), if_pos rfl, Option.bind_some]
        have ht := trimA_iff b[i]
        cases hr : rdgB b[i] with
        | true =>
          rw [if_pos (ht.2 hr), w1 (by omega), ih (i + 1) k c (by omega) (by omega) (by omega) (by omega)]
          simp only [Bool.true_or, Bool.true_and, Bool.false_eq_true, if_false, Int.zero_add]
        | false =>
          rw [if_neg (fun h => by rw [ht.1 h] at hr; cases hr)]
          rfl
    · rw [if_neg hs, lost_j2 _ _ _ _ _ k (by omega)]
      unfold okX
      rw [decide_eq_false (by omega), Bool.false_and, Bool.false_and, if_neg (by decide)]
theorem lost_f (b : List ByteArray) (hb : Small 5 b) (k : Nat) (hk : 100 ≤ k) : impl_lostOf.f k b = some (LB b) := by
  have hb5 := hb.1
  unfold impl_lostOf.f LB
  obtain ⟨k, rfl⟩ : ∃ m, k = m + 1 := ⟨k - 1, by omega⟩
  by_cases h0 : b.length = 0
  · rw [if_pos (by omega), if_neg (by omega)]
    rfl
  · have h8 : (rdOf ByteArray.empty b 0).size ≤ 5 := by
      have e := rdOf_at b 0 (by omega)
      rw [show ((0 : Nat) : Int) = 0 from rfl] at e
      rw [e]
      exact hb.2 _ (List.getElem_mem _)
    rw [if_neg (by omega), decide_eq_false (by omega)]
    simp only [impl_lostOf.j0, Bool.false_eq_true, if_false]
    by_cases h1 : 1 ≤ (rdOf ByteArray.empty b 0).size
    · have e : impl_lostOf.l0 k b 0 b (b.length : Int) 0 = _ := lost_l0 b hb _ (by omega) rfl h1 b.length 0 k 0 (by omega) (by omega) (by omega) (by omega)
      rw [e, List.drop_zero]
      congr 1
      by_cases ha : b.all (okX (rdOf ByteArray.empty b 0).size) = true
      · rw [if_pos ha, if_pos ⟨by omega, by omega, h1, by omega, ha⟩]
        simp
      · rw [if_neg ha, if_neg (fun h => ha h.2.2.2.2)]
    · obtain ⟨k, rfl⟩ : ∃ m, k = m + 1 := ⟨k - 1, by omega⟩
      simp only [impl_lostOf.l0]
      rw [if_pos (by omega), if_pos (by omega), if_pos (by omega), if_pos (by omega), if_pos trivial, if_pos (show (rdOf ByteArray.empty b 0).toList = ([] : List UInt8) by rw [nil_size]; omega), lost_j2 _ _ _ _ _ k (by omega), if_neg (by omega)]
/-! stems -/
def SV (b : List ByteArray) (s : List Int) : Bool := (LB b).2 && decide ((LB b).1 ≠ (b.length : Int)) && decide (s.length = b.length) && decide (rd s 0 = -1) && decide (∀ i, i < s.length → 1 ≤ i → 0 ≤ rd s (i : Int) ∧ rd s (i : Int) < (i : Int))
theorem sv_l0s (s : List Int) (hs : s.length ≤ 5) : ∀ (d i k : Nat), i + d = s.length → d + 2 ≤ k → 1 ≤ i → spec_StemValid.l0 k s (i : Int) = some (decide (∀ j, j < s.length → i ≤ j → 0 ≤ rd s (j : Int) ∧ rd s (j : Int) < (j : Int))) := by
  intro d
  induction d with
  | zero =>
    intro i k hi hk h1
    obtain ⟨k, rfl⟩ : ∃ m, k = m + 1 := ⟨k - 1, by omega⟩
    simp only [spec_StemValid.l0]
    rw [if_neg (by omega), decide_eq_true (fun j h1 h2 => by omega)]
  | succ d ih =>
    intro i k hi hk h1
    obtain ⟨k, rfl⟩ : ∃ m, k = m + 1 := ⟨k - 1, by omega⟩
    simp only [spec_StemValid.l0]
    unfold spec_l6In.f
    rw [if_pos (by omega), if_pos (by omega), w0 (i := (i : Int) - 1) (by omega) (by omega)]
    by_cases h2 : rd s (i : Int) ≥ 0
    · rw [if_pos h2, Option.bind_some]
      by_cases h3 : rd s (i : Int) ≤ (i : Int) - 1
      · rw [decide_eq_true h3, if_pos rfl, w1 (by omega), ih (i + 1) k (by omega) (by omega) (by omega)]
        congr 1
        refine decide_eq_decide.2 ⟨fun h j g1 g2 => ?_, fun h j g1 g2 => h j g1 (by omega)⟩
        by_cases e : j = i
        · subst e; omega
        · exact h j g1 (by omega)
      · rw [decide_eq_false h3, if_neg (by decide), decide_eq_false (fun h => by have := h i (by omega) (by omega); omega)]
    · rw [if_neg h2, Option.bind_some, if_neg (by decide), decide_eq_false (fun h => by have := h i (by omega) (by omega); omega)]
theorem rd_drop1 (s : List Int) (i : Nat) (h : i + 1 < s.length) : rd (s.drop 1) (i : Int) = rd s ((i + 1 : Nat) : Int) := by
  rw [rd_at _ i (by simp; omega), rd_at s (i + 1) h]
  simp [Nat.add_comm]
theorem sv_l0i (s : List Int) (hs : s.length ≤ 5) : ∀ (d i k : Nat), i + 1 + d = s.length → d + 2 ≤ k → impl_StemValid.l0 k (s.drop 1) ((s.drop 1).length : Int) (i : Int) = some (decide (∀ j, j < s.length → i + 1 ≤ j → 0 ≤ rd s (j : Int) ∧ rd s (j : Int) < (j : Int))) := by
  intro d
  have hl : (s.drop 1).length = s.length - 1 := by simp
  induction d with
  | zero =>
    intro i k hi hk
    obtain ⟨k, rfl⟩ : ∃ m, k = m + 1 := ⟨k - 1, by omega⟩
    simp only [impl_StemValid.l0]
    rw [if_neg (by omega), decide_eq_true (fun j h1 h2 => by omega)]
  | succ d ih =>
    intro i k hi hk
    obtain ⟨k, rfl⟩ : ∃ m, k = m + 1 := ⟨k - 1, by omega⟩
    simp only [impl_StemValid.l0]
    rw [if_pos (by omega), if_pos (by omega), if_pos (by omega), rd_drop1 s i (by omega)]
    by_cases h2 : rd s ((i + 1 : Nat) : Int) < 0
    · rw [if_pos h2, decide_eq_false (fun h => by have := h (i + 1) (by omega) (by omega); omega)]
    · rw [if_neg h2]
      by_cases h3 : rd s ((i + 1 : Nat) : Int) > (i : Int)
      · rw [if_pos h3, decide_eq_false (fun h => by have := h (i + 1) (by omega) (by omega); omega)]
      · rw [if_neg h3, w1 (by omega), ih (i + 1) k (by omega) (by omega)]
        congr 1
        refine decide_eq_decide.2 ⟨fun h j g1 g2 => ?_, fun h j g1 g2 => h j g1 (by omega)⟩
        by_cases e : j = i + 1
        · subst e; omega
        · exact h j g1 (by omega)
theorem svs_f (b : List ByteArray) (s : List Int) (hb : Small 5 b) (hs : s.length ≤ 5) (k : Nat) (hk : 200 ≤ k) : spec_StemValid.f k b s = some (SV b s) := by
  unfold spec_StemValid.f SV
  rw [bks_f b hb k hk, Option.bind_some]
  obtain ⟨k, rfl⟩ : ∃ m, k = m + 1 := ⟨k - 1, by omega⟩
  cases h2 : (LB b).2 with
  | false => rfl
  | true =>
    have hn : 1 ≤ b.length := by
      unfold LB at h2
      split at h2
      · rename_i h; exact h.1
      · cases h2
    rw [if_pos rfl]
    by_cases h1 : (LB b).1 = (b.length : Int)
    · rw [if_pos h1, decide_eq_false (fun h => h h1)]
      rfl
    · rw [if_neg h1, decide_eq_true h1]
      by_cases h3 : (s.length : Int) = (b.length : Int)
      · rw [if_pos h3, if_pos (by omega), decide_eq_true (show s.length = b.length by omega)]
        by_cases h4 : rd s 0 = -1
        · have e : spec_StemValid.l0 k s 1 = _ := sv_l0s s hs (s.length - 1) 1 k (by omega) (by omega) (by omega)
          rw [h4]
          simp only [spec_StemValid.j0]
          rw [if_neg (by decide), e]
          rfl
        · rw [decide_eq_false h4, bne_iff_ne.2 h4]
          rfl
      · rw [if_neg h3, decide_eq_false (show ¬ s.length = b.length by omega)]
        rfl
theorem svi_f (b : List ByteArray) (s : List Int) (hb : Small 5 b) (hs : s.length ≤ 5) (k : Nat) (hk : 200 ≤ k) : impl_StemValid.f k b s = some (SV b s) := by
  unfold impl_StemValid.f SV
  rw [lost_f b hb k (by omega), Option.bind_some]
  obtain ⟨k, rfl⟩ : ∃ m, k = m + 1 := ⟨k - 1, by omega⟩
  cases h2 : (LB b).2 with
  | false => rfl
  | true =>
    have hn : 1 ≤ b.length := by
      unfold LB at h2
      split at h2
      · rename_i h; exact h.1
      · cases h2
    rw [if_pos rfl]
    by_cases h1 : (LB b).1 = (b.length : Int)
    · rw [if_pos h1, decide_eq_false (fun h => h h1)]
      rfl
    · rw [if_neg h1, decide_eq_true h1]
      by_cases h3 : (s.length : Int) = (b.length : Int)
      · rw [if_pos h3, if_pos (by omega), decide_eq_true (show s.length = b.length by omega)]
        by_cases h4 : rd s 0 = -1
        · have e : impl_StemValid.l0 k (s.drop 1) ((s.drop 1).length : Int) 0 = _ := sv_l0i s hs (s.length - 1) 0 k (by omega) (by omega)
          rw [h4]
          simp only [impl_StemValid.j0]
          rw [if_neg (by decide), if_pos (by omega), e]
          rfl
        · rw [decide_eq_false h4, bne_iff_ne.2 h4]
          rfl
      · rw [if_neg h3, decide_eq_false (show ¬ s.length = b.length by omega)]
        rfl

def sumTo (f : Nat → Int) : Nat → Int
  | 0 => 0
  | n + 1 => sumTo f n + f n
theorem sumTo_congr {f g : Nat → Int} : ∀ n, (∀ i, i < n → f i = g i) → sumTo f n = sumTo g n
  | 0, _ => rfl
  | n + 1, h => by rw [sumTo, sumTo, sumTo_congr n (fun i hi => h i (by omega)), h n (by omega)]
theorem sumTo_le {f g : Nat → Int} : ∀ n, (∀ i, i < n → f i ≤ g i) → sumTo f n ≤ sumTo g n
  | 0, _ => by simp [sumTo]
  | n + 1, h => by
    have := sumTo_le n (fun i hi => h i (by omega))
    have := h n (by omega)
    rw [sumTo, sumTo]
    omega
theorem sumTo_add (f g : Nat → Int) : ∀ n, sumTo (fun i => f i + g i) n = sumTo f n + sumTo g n
  | 0 => rfl
  | n + 1 => by rw [sumTo, sumTo, sumTo, sumTo_add f g n]; omega
theorem sumTo_one (m : Nat) (x : Int) : ∀ n, sumTo (fun i => if m = i then x else 0) n = if m < n then x else 0
  | 0 => by simp [sumTo]
  | n + 1 => by
    rw [sumTo, sumTo_one m x n]
    by_cases h : m < n
    · rw [if_pos h, if_neg (by omega), if_pos (by omega)]; omega
    · by_cases h2 : m = n
      · rw [if_neg h, if_pos h2, if_pos (by omega)]; omega
      · rw [if_neg h, if_neg h2, if_neg (by omega)]; omega
theorem sumTo_zero (n : Nat) : sumTo (fun _ => 0) n = 0 := by
  induction n with
  | zero => rfl
  | succ n ih => rw [sumTo, ih]; rfl
/-- Each k once, at its parent. -/
theorem sumTo_swap (par : Nat → Nat) (g : Nat → Nat → Int) (n : Nat) : ∀ m, (∀ k, 1 ≤ k → k < m → par k < n) → sumTo (fun i => sumTo (fun k => if 1 ≤ k ∧ par k = i then g k i else 0) m) n = sumTo (fun k => if 1 ≤ k then g k (par k) else 0) m
  | 0, _ => by simp only [sumTo]; exact sumTo_zero n
  | m + 1, h => by
    have ih := sumTo_swap par g n m (fun k h1 h2 => h k h1 (by omega))
    simp only [sumTo]
    rw [sumTo_add, ih]
    congr 1
    by_cases h1 : 1 ≤ m
    · rw [if_pos h1]
      have hm := h m h1 (by omega)
      have e := sumTo_one (par m) (g m (par m)) n
      rw [if_pos hm] at e
      rw [← e]
      refine sumTo_congr n (fun i _ => ?_)
      by_cases h2 : par m = i
      · rw [if_pos ⟨h1, h2⟩, if_pos h2, h2]
      · rw [if_neg (fun h => h2 h.2), if_neg h2]
    · rw [if_neg h1]
      rw [sumTo_congr n (g := fun _ => 0) (fun i _ => if_neg (fun h => h1 h.1))]
      exact sumTo_zero n
def at4 (c : Int × Int × Int × Int) (l : Int) : Int := if l = 0 then c.1 else if l = 1 then c.2.1 else if l = 2 then c.2.2.1 else c.2.2.2
def cst (fr l : Int) (c : Int) : Int := if 0 ≤ fr ∧ l ≠ fr then c + 1 else c
theorem best4_e (c0 c1 c2 c3 fr x0 x1 x2 x3 : Int) (h0 : x0 = cst fr 0 c0) (h1 : x1 = cst fr 1 c1) (h2 : x2 = cst fr 2 c2) (h3 : x3 = cst fr 3 c3) : best4 (c0, c1, c2, c3) fr = if x1 < x0 then (if x2 < x1 then (if x3 < x2 then (3, x3) else (2, x2)) else (if x3 < x1 then (3, x3) else (1, x1))) else (if x2 < x0 then (if x3 < x2 then (3, x3) else (2, x2)) else (if x3 < x0 then (3, x3) else (0, x0))) := by
  have f0 : (if 0 ≤ fr ∧ (0 : Int) ≠ fr then c0 + 1 else c0) = x0 := h0.symm
  have f1 : (if 0 ≤ fr ∧ (1 : Int) ≠ fr then c1 + 1 else c1) = x1 := h1.symm
  have f2 : (if 0 ≤ fr ∧ (2 : Int) ≠ fr then c2 + 1 else c2) = x2 := h2.symm
  have f3 : (if 0 ≤ fr ∧ (3 : Int) ≠ fr then c3 + 1 else c3) = x3 := h3.symm
  unfold best4
  simp only [bestL, show (0 : Int) + 1 = 1 from rfl, show (1 : Int) + 1 = 2 from rfl, show (2 : Int) + 1 = 3 from rfl, f0, f1, f2, f3, show ((-1 : Int) < 0) = True from eq_true (by decide), show ((0 : Int) < 0) = False from eq_false (by decide), show ((1 : Int) < 0) = False from eq_false (by decide), show ((2 : Int) < 0) = False from eq_false (by decide), true_or, false_or, if_true]
theorem best4_ok (c : Int × Int × Int × Int) (fr : Int) : 0 ≤ (best4 c fr).1 ∧ (best4 c fr).1 ≤ 3 ∧ (best4 c fr).2 = cst fr (best4 c fr).1 (at4 c (best4 c fr).1) ∧ ∀ l, 0 ≤ l → l ≤ 3 → (best4 c fr).2 ≤ cst fr l (at4 c l) := by
  obtain ⟨c0, c1, c2, c3⟩ := c
  have key : ∀ l : Int, 0 ≤ l → l ≤ 3 → l = 0 ∨ l = 1 ∨ l = 2 ∨ l = 3 := fun l h1 h2 => by omega
  obtain ⟨x0, h0⟩ : ∃ x, x = cst fr 0 c0 := ⟨_, rfl⟩
  obtain ⟨x1, h1⟩ : ∃ x, x = cst fr 1 c1 := ⟨_, rfl⟩
  obtain ⟨x2, h2⟩ : ∃ x, x = cst fr 2 c2 := ⟨_, rfl⟩
  obtain ⟨x3, h3⟩ : ∃ x, x = cst fr 3 c3 := ⟨_, rfl⟩
  have g0 : cst fr 0 (at4 (c0, c1, c2, c3) 0) = x0 := h0.symm
  have g1 : cst fr 1 (at4 (c0, c1, c2, c3) 1) = x1 := h1.symm
  have g2 : cst fr 2 (at4 (c0, c1, c2, c3) 2) = x2 := h2.symm
  have g3 : cst fr 3 (at4 (c0, c1, c2, c3) 3) = x3 := h3.symm
  rw [best4_e c0 c1 c2 c3 fr x0 x1 x2 x3 h0 h1 h2 h3]
  split <;> split <;> split <;> (refine ⟨by simp, by simp, by first | exact g0.symm | exact g1.symm | exact g2.symm | exact g3.symm, fun l q0 q1 => ?_⟩; rcases key l q0 q1 with rfl | rfl | rfl | rfl <;> first | (rw [g0]; dsimp only; omega) | (rw [g1]; dsimp only; omega) | (rw [g2]; dsimp only; omega) | (rw [g3]; dsimp only; omega))
def dif (a b : Int) : Int := if a ≠ b then 1 else 0
theorem cst_dif {fr l c : Int} (h : 0 ≤ fr) : cst fr l c = c + dif fr l := by
  unfold cst dif
  by_cases e : l = fr
  · rw [if_neg (by simp [e]), if_neg (by simp [e])]; omega
  · rw [if_pos ⟨h, e⟩, if_pos (fun x => e x.symm)]
theorem cst_neg {fr l c : Int} (h : fr < 0) : cst fr l c = c := by
  unfold cst
  rw [if_neg (by omega)]
/-- The costs: ch i l = pen i l + the copies' fewest. -/
def IsCh (n : Nat) (par : Nat → Nat) (pen : Nat → Int → Int) (ch : Nat → Int × Int × Int × Int) : Prop := ∀ i, i < n → ∀ l, 0 ≤ l → l ≤ 3 → at4 (ch i) l = pen i l + sumTo (fun k => if 1 ≤ k ∧ par k = i then (best4 (ch k) l).2 else 0) n
def Lets (n : Nat) (y : Nat → Int) : Prop := ∀ i, i < n → 0 ≤ y i ∧ y i ≤ 3
/-- The penalties and the changes of letters y. -/
def costs (n : Nat) (par : Nat → Nat) (pen : Nat → Int → Int) (y : Nat → Int) : Int := sumTo (fun i => pen i (y i)) n + sumTo (fun k => if 1 ≤ k then dif (y (par k)) (y k) else 0) n
theorem cost_key (n : Nat) (par : Nat → Nat) (pen : Nat → Int → Int) (ch : Nat → Int × Int × Int × Int) (hp : ∀ k, 1 ≤ k → k < n → par k < n) (hc : IsCh n par pen ch) (y : Nat → Int) (hy : Lets n y) :
    sumTo (fun i => at4 (ch i) (y i)) n = sumTo (fun i => pen i (y i)) n + sumTo (fun k => if 1 ≤ k then (best4 (ch k) (y (par k))).2 else 0) n := by
  rw [sumTo_congr n (g := fun i => pen i (y i) + sumTo (fun k => if 1 ≤ k ∧ par k = i then (best4 (ch k) (y i)).2 else 0) n) (fun i hi => hc i hi (y i) (hy i hi).1 (hy i hi).2)]
  rw [sumTo_add, sumTo_swap par (fun k i => (best4 (ch k) (y i)).2) n n hp]
theorem split0 (f : Nat → Int) : ∀ n, 1 ≤ n → sumTo f n = f 0 + sumTo (fun k => if 1 ≤ k then f k else 0) n
  | 0, h => absurd h (by decide)
  | 1, _ => by simp [sumTo]
  | n + 2, _ => by
    have ih := split0 f (n + 1) (by omega)
    show sumTo f (n + 1) + f (n + 1) = f 0 + (sumTo (fun k => if 1 ≤ k then f k else 0) (n + 1) + (if 1 ≤ n + 1 then f (n + 1) else 0))
    rw [ih, if_pos (show 1 ≤ n + 1 by omega)]
    omega
theorem cost_ge (n : Nat) (hn : 1 ≤ n) (par : Nat → Nat) (pen : Nat → Int → Int) (ch : Nat → Int × Int × Int × Int) (hp : ∀ k, 1 ≤ k → k < n → par k < n) (hc : IsCh n par pen ch) (y : Nat → Int) (hy : Lets n y) :
    (best4 (ch 0) (-1)).2 ≤ costs n par pen y := by
  have h1 := cost_key n par pen ch hp hc y hy
  have h2 := split0 (fun i => at4 (ch i) (y i)) n hn
  have h3 : sumTo (fun k => if 1 ≤ k then (best4 (ch k) (y (par k))).2 else 0) n ≤ sumTo (fun k => (if 1 ≤ k then at4 (ch k) (y k) else 0) + (if 1 ≤ k then dif (y (par k)) (y k) else 0)) n := by
    refine sumTo_le n (fun k hk => ?_)
    by_cases k1 : 1 ≤ k
    · rw [if_pos k1, if_pos k1, if_pos k1]
      have hb := (best4_ok (ch k) (y (par k))).2.2.2 (y k) (hy k hk).1 (hy k hk).2
      rw [cst_dif (hy _ (hp k k1 hk)).1] at hb
      exact hb
    · rw [if_neg k1, if_neg k1, if_neg k1]; omega
  rw [sumTo_add] at h3
  have hb := (best4_ok (ch 0) (-1)).2.2.2 (y 0) (hy 0 (by omega)).1 (hy 0 (by omega)).2
  rw [cst_neg (by decide)] at hb
  unfold costs
  omega
theorem cost_eq (n : Nat) (hn : 1 ≤ n) (par : Nat → Nat) (pen : Nat → Int → Int) (ch : Nat → Int × Int × Int × Int) (hp : ∀ k, 1 ≤ k → k < n → par k < n) (hc : IsCh n par pen ch) (y : Nat → Int) (h0 : y 0 = (best4 (ch 0) (-1)).1) (hk : ∀ k, 1 ≤ k → k < n → y k = (best4 (ch k) (y (par k))).1) :
    Lets n y ∧ costs n par pen y = (best4 (ch 0) (-1)).2 := by
  have hy : Lets n y := fun i hi => by
    by_cases i0 : 1 ≤ i
    · rw [hk i i0 hi]
      exact ⟨(best4_ok _ _).1, (best4_ok _ _).2.1⟩
    · obtain rfl : i = 0 := by omega
      rw [h0]
      exact ⟨(best4_ok _ _).1, (best4_ok _ _).2.1⟩
  refine ⟨hy, ?_⟩
  have h1 := cost_key n par pen ch hp hc y hy
  have h2 := split0 (fun i => at4 (ch i) (y i)) n hn
  have h3 : sumTo (fun k => if 1 ≤ k then (best4 (ch k) (y (par k))).2 else 0) n = sumTo (fun k => (if 1 ≤ k then at4 (ch k) (y k) else 0) + (if 1 ≤ k then dif (y (par k)) (y k) else 0)) n := by
    refine sumTo_congr n (fun k hkn => ?_)
    by_cases k1 : 1 ≤ k
    · rw [if_pos k1, if_pos k1, if_pos k1]
      have hb := (best4_ok (ch k) (y (par k))).2.2.1
      rw [cst_dif (hy _ (hp k k1 hkn)).1, ← hk k k1 hkn] at hb
      exact hb
    · rw [if_neg k1, if_neg k1, if_neg k1]; omega
  rw [sumTo_add] at h3
  have hb := (best4_ok (ch 0) (-1)).2.2.1
  rw [cst_neg (by decide), ← h0] at hb
  unfold costs
  omega
theorem mn_min (a b : Int) : mn a b = min a b := by
  unfold mn
  split <;> omega
def toL (c : Int × Int × Int × Int) : List Int := [c.1, c.2.1, c.2.2.1, c.2.2.2]
theorem toL_len (c : Int × Int × Int × Int) : (toL c).length = 4 := rfl
theorem rd_toL (c : Int × Int × Int × Int) (i : Nat) (h : i < 4) : rd (toL c) (i : Int) = getc c i := by
  rcases four i h with rfl | rfl | rfl | rfl <;> rfl
theorem toL_set (c : Int × Int × Int × Int) (x : Int) (i : Nat) (h : i < 4) : (toL c).set (i : Int).toNat x = toL (setc c x i) := by
  rcases four i h with rfl | rfl | rfl | rfl <;> rfl
theorem at4_get (c : Int × Int × Int × Int) (i : Nat) (h : i < 4) : at4 c (i : Int) = getc c i := by
  rcases four i h with rfl | rfl | rfl | rfl <;> rfl
theorem best_step (x : List Int) (hx : x.length = 4) (v : Int) (i : Nat) (hi : i < 4) (k : Nat) : spec_l7Best.l0 (k + 1) x v (i : Int) = spec_l7Best.l0 k x (mn v (wrap64 ((rd x (i : Int)) + 1))) ((i + 1 : Nat) : Int) := by
  simp only [spec_l7Best.l0]
  rw [if_pos (by omega), if_pos (by omega), if_pos (by omega), w1 (by omega)]
theorem cst_at (l q c : Int) (hl : 0 ≤ l) : (l = q → cst l q c = c) ∧ (l ≠ q → cst l q c = c + 1) := by
  unfold cst
  constructor
  · intro h; rw [if_neg (fun h2 => h2.2 h.symm)]
  · intro h; rw [if_pos ⟨hl, fun h2 => h h2.symm⟩]
theorem best_f (c : Int × Int × Int × Int) (B : Int) (hB : Bd B c) (hB2 : B ≤ 100000000) (l : Nat) (hl : l < 4) (k : Nat) (hk : 6 ≤ k) : spec_l7Best.f k (toL c) (l : Int) = some (best4 c (l : Int)).2 := by
  obtain ⟨k, rfl⟩ : ∃ m, k = m + 5 := ⟨k - 5, by omega⟩
  unfold spec_l7Best.f
  rw [if_pos (by omega), if_pos (by rw [toL_len]; omega)]
  have s0 := best_step (toL c) rfl (rd (toL c) (l : Int)) 0 (by decide) (k + 4)
  have s1 := fun v => best_step (toL c) rfl v 1 (by decide) (k + 3)
  have s2 := fun v => best_step (toL c) rfl v 2 (by decide) (k + 2)
  have s3 := fun v => best_step (toL c) rfl v 3 (by decide) (k + 1)
  have s4 : ∀ v, spec_l7Best.l0 (k + 1) (toL c) v ((3 + 1 : Nat) : Int) = some v := fun v => by
    simp only [spec_l7Best.l0]
    rw [if_neg (by decide)]
  rw [show (0 : Int) = ((0 : Nat) : Int) from rfl, s0, s1, s2, s3, s4]
  have b0 := hB 0 (by decide)
  have b1 := hB 1 (by decide)
  have b2 := hB 2 (by decide)
  have b3 := hB 3 (by decide)
  rw [rd_toL c l hl, rd_toL c 0 (by decide), rd_toL c 1 (by decide), rd_toL c 2 (by decide), rd_toL c 3 (by decide)]
  rw [w0 (i := getc c 0 + 1) (by omega) (by omega), w0 (i := getc c 1 + 1) (by omega) (by omega), w0 (i := getc c 2 + 1) (by omega) (by omega), w0 (i := getc c 3 + 1) (by omega) (by omega)]
  simp only [mn_min]
  congr 1
  obtain ⟨h1, h2, h3, h4⟩ := best4_ok c (l : Int)
  have g0 := h4 0 (by decide) (by decide)
  have g1 := h4 1 (by decide) (by decide)
  have g2 := h4 2 (by decide) (by decide)
  have g3 := h4 3 (by decide) (by decide)
  have a0 := at4_get c 0 (by decide)
  have a1 := at4_get c 1 (by decide)
  have a2 := at4_get c 2 (by decide)
  have a3 := at4_get c 3 (by decide)
  simp only [Int.natCast_zero] at a0
  rw [show ((1 : Nat) : Int) = 1 from rfl] at a1
  rw [show ((2 : Nat) : Int) = 2 from rfl] at a2
  rw [show ((3 : Nat) : Int) = 3 from rfl] at a3
  rw [a0] at g0
  rw [a1] at g1
  rw [a2] at g2
  rw [a3] at g3
  have hq : (best4 c (l : Int)).1 = 0 ∨ (best4 c (l : Int)).1 = 1 ∨ (best4 c (l : Int)).1 = 2 ∨ (best4 c (l : Int)).1 = 3 := by omega
  have e0 := cst_at (l : Int) 0 (getc c 0) (by omega)
  have e1 := cst_at (l : Int) 1 (getc c 1) (by omega)
  have e2 := cst_at (l : Int) 2 (getc c 2) (by omega)
  have e3 := cst_at (l : Int) 3 (getc c 3) (by omega)
  generalize (best4 c (l : Int)).2 = M at h3 g0 g1 g2 g3 ⊢
  have h3' : M = cst (l : Int) 0 (getc c 0) ∨ M = cst (l : Int) 1 (getc c 1) ∨ M = cst (l : Int) 2 (getc c 2) ∨ M = cst (l : Int) 3 (getc c 3) := by
    rcases hq with hq | hq | hq | hq
    · rw [hq, a0] at h3; exact .inl h3
    · rw [hq, a1] at h3; exact .inr (.inl h3)
    · rw [hq, a2] at h3; exact .inr (.inr (.inl h3))
    · rw [hq, a3] at h3; exact .inr (.inr (.inr h3))
  clear h3
  rcases four l hl with rfl | rfl | rfl | rfl
  · have f0 := e0.1 (by omega)
    have f1 := e1.2 (by omega)
    have f2 := e2.2 (by omega)
    have f3 := e3.2 (by omega)
    omega
  · have f0 := e0.2 (by omega)
    have f1 := e1.1 (by omega)
    have f2 := e2.2 (by omega)
    have f3 := e3.2 (by omega)
    omega
  · have f0 := e0.2 (by omega)
    have f1 := e1.2 (by omega)
    have f2 := e2.1 (by omega)
    have f3 := e3.2 (by omega)
    omega
  · have f0 := e0.2 (by omega)
    have f1 := e1.2 (by omega)
    have f2 := e2.2 (by omega)
    have f3 := e3.1 (by omega)
    omega
theorem let_step (c : Int × Int × Int × Int) (B : Int) (hB : Bd B c) (hB2 : B ≤ 100000000) (a : Int) (b i : Nat) (hb : b < 4) (hi : i < 4) (k : Nat) : spec_l7Letter.l0 (k + 4) (toL c) a (b : Int) (i : Int) = spec_l7Letter.l0 k (toL c) a (if cst a (i : Int) (getc c i) < cst a (b : Int) (getc c b) then (i : Int) else (b : Int)) ((i + 1 : Nat) : Int) := by
  have bi := hB i hi
  have bb := hB b hb
  simp only [spec_l7Letter.l0, spec_l7Letter.j1, spec_l7Letter.j2, spec_l7Letter.j3]
  rw [if_pos (by omega), if_pos (by omega), if_pos (by rw [toL_len]; omega), if_pos (by omega), if_pos (by rw [toL_len]; omega), rd_toL c i hi, rd_toL c b hb, w0 (i := getc c i + 1) (by omega) (by omega), w0 (i := getc c b + 1) (by omega) (by omega), w1 (by omega)]
  generalize getc c i = u at *
  generalize getc c b = v at *
  unfold cst
  by_cases ha : a ≥ 0
  · rw [if_pos ha]
    have ha' : 0 ≤ a := ha
    by_cases e1 : (i : Int) = a
    · rw [bne_eq_false_iff_eq.2 e1, if_neg (by decide), if_pos ha, if_neg (show ¬ (0 ≤ a ∧ (i : Int) ≠ a) from fun h => h.2 e1)]
      by_cases e2 : (b : Int) = a
      · rw [bne_eq_false_iff_eq.2 e2, if_neg (by decide), if_neg (show ¬ (0 ≤ a ∧ (b : Int) ≠ a) from fun h => h.2 e2)]
        split <;> rfl
      · rw [bne_iff_ne.2 e2, if_pos rfl, if_pos (show 0 ≤ a ∧ (b : Int) ≠ a from ⟨ha', e2⟩)]
        split <;> rfl
    · rw [bne_iff_ne.2 e1, if_pos rfl, if_pos ha, if_pos (show 0 ≤ a ∧ (i : Int) ≠ a from ⟨ha', e1⟩)]
      by_cases e2 : (b : Int) = a
      · rw [bne_eq_false_iff_eq.2 e2, if_neg (by decide), if_neg (show ¬ (0 ≤ a ∧ (b : Int) ≠ a) from fun h => h.2 e2)]
        split <;> rfl
      · rw [bne_iff_ne.2 e2, if_pos rfl, if_pos (show 0 ≤ a ∧ (b : Int) ≠ a from ⟨ha', e2⟩)]
        split <;> rfl
  · have ha' : ¬ (0 ≤ a) := ha
    rw [if_neg ha, if_neg (by decide), if_neg ha, if_neg (by decide)]
    simp only [ha', false_and, if_false]
    split <;> rfl
theorem let_f (c : Int × Int × Int × Int) (B : Int) (hB : Bd B c) (hB2 : B ≤ 100000000) (a : Int) (k : Nat) (hk : 20 ≤ k) : spec_l7Letter.f k (toL c) a = some (best4 c a).1 := by
  obtain ⟨k, rfl⟩ : ∃ m, k = m + 17 := ⟨k - 17, by omega⟩
  unfold spec_l7Letter.f
  have s0 := let_step c B hB hB2 a 0 0 (by decide) (by decide) (k + 13)
  have s1 := fun b hb => let_step c B hB hB2 a b 1 hb (by decide) (k + 9)
  have s2 := fun b hb => let_step c B hB hB2 a b 2 hb (by decide) (k + 5)
  have s3 := fun b hb => let_step c B hB hB2 a b 3 hb (by decide) (k + 1)
  have s4 : ∀ v, spec_l7Letter.l0 (k + 1) (toL c) a v ((3 + 1 : Nat) : Int) = some v := fun v => by
    simp only [spec_l7Letter.l0]
    rw [if_neg (by decide)]
  have e := best4_e c.1 c.2.1 c.2.2.1 c.2.2.2 a (cst a ((0 : Nat) : Int) (getc c 0)) (cst a ((1 : Nat) : Int) (getc c 1)) (cst a ((2 : Nat) : Int) (getc c 2)) (cst a ((3 : Nat) : Int) (getc c 3)) rfl rfl rfl rfl
  rw [show ((c.1, c.2.1, c.2.2.1, c.2.2.2) : Int × Int × Int × Int) = c from rfl] at e
  rw [e]
  rw [show (0 : Int) = ((0 : Nat) : Int) from rfl, s0, if_neg (by omega)]
  have r1 := s1 0 (by decide)
  rw [show ((0 + 1 : Nat) : Int) = ((1 : Nat) : Int) from rfl, r1]
  rw [show ((1 + 1 : Nat) : Int) = ((2 : Nat) : Int) from rfl]
  by_cases h1 : cst a ((1 : Nat) : Int) (getc c 1) < cst a ((0 : Nat) : Int) (getc c 0)
  · rw [if_pos h1, if_pos h1, s2 1 (by decide), show ((2 + 1 : Nat) : Int) = ((3 : Nat) : Int) from rfl]
    by_cases h2 : cst a ((2 : Nat) : Int) (getc c 2) < cst a ((1 : Nat) : Int) (getc c 1)
    · rw [if_pos h2, if_pos h2, s3 2 (by decide), s4]
      by_cases h3 : cst a ((3 : Nat) : Int) (getc c 3) < cst a ((2 : Nat) : Int) (getc c 2)
      · rw [if_pos h3, if_pos h3] <;> rfl
      · rw [if_neg h3, if_neg h3] <;> rfl
    · rw [if_neg h2, if_neg h2, s3 1 (by decide), s4]
      by_cases h3 : cst a ((3 : Nat) : Int) (getc c 3) < cst a ((1 : Nat) : Int) (getc c 1)
      · rw [if_pos h3, if_pos h3] <;> rfl
      · rw [if_neg h3, if_neg h3] <;> rfl
  · rw [if_neg h1, if_neg h1, s2 0 (by decide), show ((2 + 1 : Nat) : Int) = ((3 : Nat) : Int) from rfl]
    by_cases h2 : cst a ((2 : Nat) : Int) (getc c 2) < cst a ((0 : Nat) : Int) (getc c 0)
    · rw [if_pos h2, if_pos h2, s3 2 (by decide), s4]
      by_cases h3 : cst a ((3 : Nat) : Int) (getc c 3) < cst a ((2 : Nat) : Int) (getc c 2)
      · rw [if_pos h3, if_pos h3] <;> rfl
      · rw [if_neg h3, if_neg h3] <;> rfl
    · rw [if_neg h2, if_neg h2, s3 0 (by decide), s4]
      by_cases h3 : cst a ((3 : Nat) : Int) (getc c 3) < cst a ((0 : Nat) : Int) (getc c 0)
      · rw [if_pos h3, if_pos h3] <;> rfl
      · rw [if_neg h3, if_neg h3] <;> rfl
/-! ### the table of the fewest changes -/
def mapE (n : Nat) (E : Nat → List Int) : List (List Int) := (List.range n).map E
theorem mapE_len (n : Nat) (E : Nat → List Int) : (mapE n E).length = n := by simp [mapE]
theorem mapE_get (n : Nat) (E : Nat → List Int) (i : Nat) (h : i < n) : rd_L3 (mapE n E) (i : Int) = E i := by
  unfold rd_L3 mapE
  rw [Int.toNat_natCast]
  simp [List.getD_eq_getElem?_getD, h]
theorem mapE_set (n : Nat) (E : Nat → List Int) (i : Nat) (y : List Int) : (mapE n E).set (i : Int).toNat y = mapE n (upf E i y) := by
  rw [Int.toNat_natCast]
  refine List.ext_getElem? (fun j => ?_)
  rw [List.getElem?_set]
  by_cases e : i = j
  · subst e
    rw [if_pos rfl, mapE_len]
    by_cases h : i < n
    · rw [if_pos h]
      simp [mapE, h, upf_same]
    · rw [if_neg h, List.getElem?_eq_none (by rw [mapE_len]; omega)]
  · rw [if_neg e]
    unfold mapE
    rw [List.getElem?_map, List.getElem?_map]
    by_cases h : j < n
    · rw [List.getElem?_range h]
      simp only [Option.map_some]
      rw [upf_ne _ _ _ _ (fun h => e h.symm)]
    · rw [List.getElem?_eq_none (by rw [List.length_range]; omega)]
      rfl
def chF (s : List Int) (i : Nat) : Nat → Nat → List Nat
  | _, 0 => []
  | q, d + 1 => if rd s (q : Int) = (i : Int) then q :: chF s i (q + 1) d else chF s i (q + 1) d
theorem chF_filter (s : List Int) (i : Nat) : ∀ d q, chF s i q d = (List.range' q d).filter (fun (k : Nat) => decide (rd s (k : Int) = (i : Int)))
  | 0, q => rfl
  | d + 1, q => by
    rw [chF, chF_filter s i d (q + 1), List.range'_succ, List.filter_cons]
    by_cases h : rd s (q : Int) = (i : Int)
    · rw [if_pos h, if_pos (decide_eq_true h)]
    · rw [if_neg h, if_neg (by simp [h])]
theorem chS_chF (s : List Int) (n i : Nat) (hs : StemOk n s) (hi : i < n) : chS s n i = chF s i (i + 1) (n - (i + 1)) := by
  unfold chS
  rw [chF_filter, List.range_eq_range', show n = (i + 1) + (n - (i + 1)) by omega, ← List.range'_append_1, List.filter_append, show (i + 1) + (n - (i + 1)) - (i + 1) = n - (i + 1) by omega]
  have e1 : (List.range' 0 (i + 1)).filter (fun (k : Nat) => decide (0 < k) && decide (rd s (k : Int) = (i : Int))) = [] := by
    refine List.filter_eq_nil_iff.2 (fun k hk => ?_)
    have hk2 : k < i + 1 := by
      have := List.mem_range'_1.1 hk
      omega
    intro h
    simp only [Bool.and_eq_true, decide_eq_true_eq] at h
    have := hs k h.1 (by omega)
    omega
  rw [e1, List.nil_append, Nat.zero_add]
  refine List.filter_congr (fun k hk => ?_)
  have hk2 := List.mem_range'_1.1 hk
  rw [decide_eq_true (show 0 < k by omega), Bool.true_and]
theorem below_l2 (b : List ByteArray) (s : List Int) (p : Int) (n : Nat) (hn : b.length = n) (hs : s.length = n) (hn6 : n ≤ 6) (E : Nat → List Int) (cs : Nat → Int × Int × Int × Int) (B : Int) (hB2 : B ≤ 100000000) (i : Nat) (hi : i < n) (hE : ∀ j, i < j → j < n → E j = toL (cs j) ∧ Bd B (cs j)) (c : Nat) (hc : c < 4) (K : Nat) (R : Option (List (List Int))) :
    ∀ (d q : Nat) (y : Int × Int × Int × Int), q + d = n → i < q → (∀ k, K ≤ k → spec_l7Below.l1 k b s p (mapE n (upf E i (toL (setc y (addB cs c (chF s i q d) (getc y c)) c)))) (i : Int) ((c + 1 : Nat) : Int) = R) → ∀ k, K + d + 10 ≤ k → spec_l7Below.l2 k b s p (mapE n (upf E i (toL y))) (i : Int) (c : Int) (q : Int) = R := by
  intro d
  induction d with
  | zero =>
    intro q y hq hiq h k hk
    obtain ⟨k, rfl⟩ : ∃ m, k = m + 1 := ⟨k - 1, by omega⟩
    have h2 := h k (by omega)
    simp only [chF, addB] at h2
    rw [show setc y (getc y c) c = y from c4_ext _ _ (fun l hl => by rw [getc_setc _ _ _ _ hc hl]; split <;> simp [*])] at h2
    simp only [spec_l7Below.l2]
    rw [if_neg (by omega), w1 (by omega)]
    exact h2
  | succ d ih =>
    intro q y hq hiq h k hk
    obtain ⟨k, rfl⟩ : ∃ m, k = m + 1 := ⟨k - 1, by omega⟩
    have hqn : q < n := by omega
    simp only [spec_l7Below.l2]
    rw [if_pos (by omega), if_pos (by omega), if_pos (by omega)]
    rw [chF] at h
    by_cases e : rd s (q : Int) = (i : Int)
    · rw [if_pos e] at h
      rw [if_pos e, if_pos (by omega), if_pos (by rw [mapE_len]; omega), if_pos (by omega), mapE_get n _ i hi, upf_same, if_pos (by rw [toL_len]; omega), if_pos (by rw [mapE_len]; omega), mapE_get n _ q hqn, upf_ne _ _ _ _ (by omega), (hE q hiq hqn).1, best_f (cs q) B (hE q hiq hqn).2 hB2 c hc k (by omega), Option.bind_some, rd_toL y c hc, toL_set y _ c hc, mapE_set, upf_upf, w1 (by omega)]
      refine ih (q + 1) (setc y (wrap64 (getc y c + (best4 (cs q) (c : Int)).2)) c) (by omega) (by omega) (fun k' hk' => ?_) k (by omega)
      rw [getc_setc _ _ _ _ hc hc, if_pos rfl, setc_setc _ _ _ _ hc]
      exact h k' hk'
    · rw [if_neg e] at h
      rw [if_neg e, w1 (by omega)]
      exact ih (q + 1) y (by omega) (by omega) h k (by omega)
/-- what is asked of manuscripts and stem -/
structure Good (b : List ByteArray) (s : List Int) (n m : Nat) : Prop where
  bl : b.length = n
  sl : s.length = n
  n1 : 1 ≤ n
  n5 : n ≤ 5
  ok : StemOk n s
  m1 : 1 ≤ m
  m5 : m ≤ 5
  sz : ∀ j, j < n → (rdsS b j).size = m
  kind : ∀ j, j < n → (isL (rdsS b j) = true ∧ ∀ p, p < m → bt (rdsS b j) (p : Int) = 63) ∨ (isL (rdsS b j) = false ∧ ∀ p, p < m → 97 ≤ bt (rdsS b j) (p : Int) ∧ bt (rdsS b j) (p : Int) ≤ 100)
theorem Good.chl {b : List ByteArray} {s : List Int} {n m : Nat} (g : Good b s n m) : ∀ i, i < n → ∀ k ∈ chS s n i, k < n ∧ i < k := by
  intro i hi k hk
  have h := chS_mem _ _ _ _ hk
  have h2 := g.ok k h.2.1 h.1
  exact ⟨h.1, by omega⟩
theorem Good.fix {b : List ByteArray} {s : List Int} {n m : Nat} (g : Good b s n m) (p : Int) : ∀ j, j < n → cS b s p j = cnt4 (isL (rdsS b j)) (rdsS b j) p (cS b s p) (chS s n j) := by
  have key : ∀ f f' j, j < n → n - j ≤ f → n - j ≤ f' → cF (fun j => isL (rdsS b j)) (rdsS b) (chS s n) p f j = cF (fun j => isL (rdsS b j)) (rdsS b) (chS s n) p f' j := by
    intro f
    induction f with
    | zero => intro f' j hj h; omega
    | succ f ih =>
      intro f' j hj h h'
      obtain ⟨f', rfl⟩ : ∃ m, f' = m + 1 := ⟨f' - 1, by omega⟩
      rw [cF, cF]
      exact cnt4_congr _ _ _ _ (fun k hk => by
        have h3 := g.chl j hj k hk
        exact ih f' k h3.1 (by omega) (by omega))
  intro j hj
  unfold cS
  rw [g.bl]
  obtain ⟨n', rfl⟩ : ∃ n', n = n' + 1 := ⟨n - 1, by have := g.n1; omega⟩
  rw [cF]
  refine cnt4_congr _ _ _ _ (fun k hk => ?_)
  have h3 := g.chl j hj k hk
  exact key n' (n' + 1) k h3.1 (by omega) (by omega)
theorem Good.bd {b : List ByteArray} {s : List Int} {n m : Nat} (g : Good b s n m) (p : Int) (j : Nat) (hj : j < n) : Bd 10000000 (cS b s p j) :=
  (fix_bd n 0 (Nat.le_trans g.n5 (by decide)) (fun j => isL (rdsS b j)) (rdsS b) (chS s n) p (cS b s p) g.chl (fun q => chS_len _ _ _) (fun j _ hj => g.fix p j hj) 6 j (by decide) (by omega) hj (by have := g.n5; omega)).le (by decide)
theorem below_l1 {b : List ByteArray} {s : List Int} {n m : Nat} (g : Good b s n m) (p : Nat) (hp : p < m) (E : Nat → List Int) (i : Nat) (hi : i < n) (hE : ∀ j, i < j → j < n → E j = toL (cS b s (p : Int) j)) (K : Nat) (R : Option (List (List Int))) (h : ∀ k, K ≤ k → spec_l7Below.l0 k b s (p : Int) (mapE n (upf E i (toL (cS b s (p : Int) i)))) (wrap64 ((i : Int) - 1)) = R) :
    ∀ (e c : Nat) (y : Int × Int × Int × Int), c + e = 4 → (∀ q, c ≤ q → q < 4 → getc y q = 0) → (∀ q, q < c → getc y q = getc (cS b s (p : Int) i) q) → ∀ k, K + e * 40 + 2 ≤ k → spec_l7Below.l1 k b s (p : Int) (mapE n (upf E i (toL y))) (i : Int) (c : Int) = R := by
  intro e
  induction e with
  | zero =>
    intro c y hc h0 h1 k hk
    obtain ⟨k, rfl⟩ : ∃ m, k = m + 1 := ⟨k - 1, by omega⟩
    have : y = cS b s (p : Int) i := c4_ext _ _ (fun l hl => h1 l (by omega))
    subst this
    simp only [spec_l7Below.l1]
    rw [if_neg (by omega)]
    exact h k (by omega)
  | succ e ih =>
    intro c y hc h0 h1 k hk
    obtain ⟨k, rfl⟩ : ∃ m, k = m + 1 := ⟨k - 1, by omega⟩
    have hc4 : c < 4 := by omega
    have hn5 := g.n5
    have hbl := g.bl
    have ebt : rdOf ByteArray.empty b (i : Int) = rdsS b i := rfl
    have hsz := g.sz i hi
    -- from the penalty on
    have tail : ∀ k, K + e * 40 + 30 ≤ k → spec_l7Below.j3 k b s (p : Int) (mapE n (upf E i (toL (setc y (pen (isL (rdsS b i)) (rdsS b i) (p : Int) c) c)))) (i : Int) (c : Int) = R := by
      intro k hk
      obtain ⟨k, rfl⟩ : ∃ m, k = m + 1 := ⟨k - 1, by omega⟩
      simp only [spec_l7Below.j3]
      rw [w1 (by omega)]
      refine below_l2 b s (p : Int) n g.bl g.sl (by omega) E (cS b s (p : Int)) 10000000 (by decide) i hi (fun j a0 a1 => ⟨hE j a0 a1, g.bd _ j a1⟩) c hc4 (K + e * 40 + 2) R (n - (i + 1)) (i + 1) (setc y (pen (isL (rdsS b i)) (rdsS b i) (p : Int) c) c) (by omega) (by omega) (fun k' hk' => ?_) k (by omega)
      rw [getc_setc _ _ _ _ hc4 hc4, if_pos rfl, setc_setc _ _ _ _ hc4, ← chS_chF s n i g.ok hi]
      refine ih (c + 1) _ (by omega) (fun q a0 a1 => ?_) (fun q a0 => ?_) k' hk'
      · rw [getc_setc _ _ _ _ hc4 a1, if_neg (by omega)]
        exact h0 q (by omega) a1
      · rw [getc_setc _ _ _ _ hc4 (by omega)]
        by_cases eq : q = c
        · subst eq
          rw [if_pos rfl, g.fix (p : Int) i hi, getc_cnt4 _ _ _ _ _ _ hc4]
          rfl
        · rw [if_neg eq]
          exact h1 q (by omega)
    have hyc : ∀ v, v = getc y c → setc y v c = y := fun v hv => c4_ext _ _ (fun l hl => by
      rw [getc_setc _ _ _ _ hc4 hl]
      split
      · rename_i e; rw [hv, e]
      · rfl)
    simp only [spec_l7Below.l1]
    rw [if_pos (by omega), if_pos (by omega), if_pos (by omega), if_pos (by omega), ebt, if_pos (by omega)]
    rcases g.kind i hi with ⟨k0, k1⟩ | ⟨k0, k1⟩
    · have h2 := k1 p hp
      rw [if_pos h2]
      obtain ⟨k, rfl⟩ : ∃ m, k = m + 1 := ⟨k - 1, by omega⟩
      simp only [spec_l7Below.j2]
      rw [if_neg (by decide)]
      have h3 := tail k (by omega)
      rw [hyc _ (show pen (isL (rdsS b i)) (rdsS b i) (p : Int) c = getc y c by rw [h0 c (by omega) hc4]; unfold pen; rw [k0, if_neg (by simp)])] at h3
      exact h3
    · have h2 := k1 p hp
      rw [if_neg (by omega), w0 (i := bt (rdsS b i) (p : Int)) (by omega) (by omega), w0 (i := 97 + (c : Int)) (by omega) (by omega)]
      obtain ⟨k, rfl⟩ : ∃ m, k = m + 1 := ⟨k - 1, by omega⟩
      simp only [spec_l7Below.j2]
      by_cases e3 : bt (rdsS b i) (p : Int) = 97 + (c : Int)
      · rw [bne_eq_false_iff_eq.2 e3, if_neg (by decide)]
        have h3 := tail k (by omega)
        rw [hyc _ (show pen (isL (rdsS b i)) (rdsS b i) (p : Int) c = getc y c by rw [h0 c (by omega) hc4]; unfold pen; rw [if_neg (fun h => h.2 e3)])] at h3
        exact h3
      · rw [bne_iff_ne.2 e3, if_pos rfl, if_pos (by omega), if_pos (by rw [mapE_len]; omega), if_pos (by omega), mapE_get n _ i hi, upf_same, if_pos (by rw [toL_len]; omega), toL_set y _ c hc4, mapE_set, upf_upf]
        have h3 := tail k (by omega)
        rw [show pen (isL (rdsS b i)) (rdsS b i) (p : Int) c = 1000 by unfold pen; rw [if_pos ⟨k0, e3⟩]] at h3
        exact h3
theorem below_l0 {b : List ByteArray} {s : List Int} {n m : Nat} (g : Good b s n m) (p : Nat) (hp : p < m) : ∀ (t : Nat) (E : Nat → List Int), t ≤ n → (∀ j, t ≤ j → j < n → E j = toL (cS b s (p : Int) j)) → ∀ k, t * 200 + 5 ≤ k → spec_l7Below.l0 k b s (p : Int) (mapE n E) ((t : Int) - 1) = some (mapE n (fun j => toL (cS b s (p : Int) j))) := by
  intro t
  induction t with
  | zero =>
    intro E _ hE k hk
    obtain ⟨k, rfl⟩ : ∃ m, k = m + 1 := ⟨k - 1, by omega⟩
    simp only [spec_l7Below.l0]
    rw [if_neg (by omega)]
    congr 1
    exact List.map_congr_left (fun j hj => hE j (by omega) (List.mem_range.1 hj))
  | succ t ih =>
    intro E ht hE k hk
    obtain ⟨k, rfl⟩ : ∃ m, k = m + 1 := ⟨k - 1, by omega⟩
    have et : ((t + 1 : Nat) : Int) - 1 = (t : Int) := by omega
    rw [et]
    simp only [spec_l7Below.l0]
    rw [if_pos (by omega), if_pos (by decide), if_pos (by omega), if_pos (by rw [mapE_len]; omega), mapE_set]
    refine below_l1 g p hp E t (by omega) (fun j a0 a1 => hE j (by omega) a1) (t * 200 + 5) _ (fun k' hk' => ?_) 4 0 (0, 0, 0, 0) (by omega) (fun q _ hq => by rcases four q hq with rfl | rfl | rfl | rfl <;> rfl) (fun q hq => absurd hq (by omega)) k (by omega)
    have hn5 := g.n5
    rw [show wrap64 ((t : Int) - 1) = (t : Int) - 1 by unfold wrap64; omega]
    refine ih _ (by omega) (fun j a0 a1 => ?_) k' hk'
    by_cases e : j = t
    · subst e; rw [upf_same]
    · rw [upf_ne _ _ _ _ e]; exact hE j (by omega) a1
theorem below_f {b : List ByteArray} {s : List Int} {n m : Nat} (g : Good b s n m) (p : Nat) (hp : p < m) (k : Nat) (hk : 1100 ≤ k) : spec_l7Below.f k b s (p : Int) = some (mapE n (fun j => toL (cS b s (p : Int) j))) := by
  have hn5 := g.n5
  have hn1 := g.n1
  unfold spec_l7Below.f
  rw [g.bl, if_pos (by omega), if_pos (by omega), show wrap64 ((n : Int) - 1) = (n : Int) - 1 by unfold wrap64; omega]
  have e : List.replicate (n : Int).toNat ([] : List Int) = mapE n (fun _ => []) := by
    rw [Int.toNat_natCast]
    refine List.ext_getElem (by rw [mapE_len, List.length_replicate]) (fun j h1 h2 => ?_)
    simp [mapE]
  rw [e]
  exact below_l0 g p hp n (fun _ => []) (Nat.le_refl _) (fun j h1 h2 => by omega) k (by omega)
/-! ### from valid manuscripts -/
theorem rdsS_at (b : List ByteArray) (j : Nat) (h : j < b.length) : rdsS b j = b[j] := rdOf_at b j h
theorem good_of (b : List ByteArray) (s : List Int) (hb : Small 5 b) (hv : SV b s = true) : Good b s b.length (rdsS b 0).size ∧ rd s 0 = -1 := by
  unfold SV at hv
  simp only [Bool.and_eq_true, decide_eq_true_eq] at hv
  obtain ⟨⟨⟨⟨h1, h2⟩, h3⟩, h4⟩, h5⟩ := hv
  unfold LB at h1
  split at h1
  · rename_i h
    obtain ⟨a1, a2, a3, a4, a5⟩ := h
    have e0 : rdOf ByteArray.empty b 0 = rdsS b 0 := rfl
    rw [e0] at a3 a4 a5
    rw [List.all_eq_true] at a5
    have hx : ∀ j, j < b.length → (rdsS b j).size = (rdsS b 0).size ∧ (rdgB (rdsS b j) = true ∨ lstB (rdsS b j) = true) := by
      intro j hj
      have h := a5 b[j] (List.getElem_mem hj)
      unfold okX at h
      simp only [Bool.and_eq_true, decide_eq_true_eq, Bool.or_eq_true] at h
      rw [rdsS_at b j hj]
      exact h
    have hm5 : (rdsS b 0).size ≤ 5 := by
      rw [rdsS_at b 0 (by omega)]
      exact hb.2 _ (List.getElem_mem _)
    refine ⟨⟨rfl, h3, a1, hb.1, fun k hk hn => h5 k (by omega) (by omega), a3, hm5, fun j hj => (hx j hj).1, fun j hj => ?_⟩, h4⟩
    obtain ⟨hs, hk⟩ := hx j hj
    have hi := isL_iff (rdsS b j) (by omega)
    cases hl : lstB (rdsS b j) with
    | true =>
      refine .inl ⟨hi.2 ⟨by omega, hl⟩, fun p hp => ?_⟩
      unfold lstB at hl
      exact of_decide_eq_true hl p (by omega)
    | false =>
      have hr := hk.resolve_right (by rw [hl]; decide)
      refine .inr ⟨?_, fun p hp => ?_⟩
      · cases hL : isL (rdsS b j) with
        | false => rfl
        | true => rw [(hi.1 hL).2] at hl; cases hl
      · unfold rdgB at hr
        exact of_decide_eq_true hr p (by omega)
  · cases h1
/-! ### the costs of a column -/
def parS (s : List Int) (k : Nat) : Nat := (rd s (k : Int)).toNat
def penS (b : List ByteArray) (p : Int) (i : Nat) (l : Int) : Int := if isL (rdsS b i) = false ∧ bt (rdsS b i) p ≠ 97 + l then 1000 else 0
theorem addB_app (cs : Nat → Int × Int × Int × Int) (l : Nat) (k : Nat) : ∀ (r : List Nat) (a : Int), addB cs l (r ++ [k]) a = wrap64 (addB cs l r a + (best4 (cs k) (l : Int)).2)
  | [], a => rfl
  | q :: r, a => by rw [List.cons_append, addB, addB, addB_app cs l k r]
theorem addB_sum (cs : Nat → Int × Int × Int × Int) (l : Nat) (P : Nat → Bool) (a B : Int) (ha : 0 ≤ a) (ha2 : a ≤ 1000) (hB : 0 ≤ B) (hB2 : B ≤ 100000000) : ∀ n, n ≤ 6 → (∀ k, k < n → Bd B (cs k)) → addB cs l ((List.range n).filter P) a = a + sumTo (fun k => if P k = true then (best4 (cs k) (l : Int)).2 else 0) n ∧ 0 ≤ sumTo (fun k => if P k = true then (best4 (cs k) (l : Int)).2 else 0) n ∧ sumTo (fun k => if P k = true then (best4 (cs k) (l : Int)).2 else 0) n ≤ n * (B + 1) := by
  intro n
  induction n with
  | zero => intro _ _; exact ⟨by simp [addB, sumTo], by simp [sumTo], by simp [sumTo]⟩
  | succ n ih =>
    intro hn h
    obtain ⟨i1, i2, i3⟩ := ih (by omega) (fun k hk => h k (by omega))
    rw [List.range_succ, List.filter_append, sumTo]
    have hk := best4_bd (cs n) (l : Int) B (h n (by omega)) hB
    have e : ((n + 1 : Nat) : Int) * (B + 1) = (n : Int) * (B + 1) + (B + 1) := by
      rw [show ((n + 1 : Nat) : Int) = (n : Int) + 1 by omega, Int.add_mul, Int.one_mul]
    have hm : (n : Int) * (B + 1) ≤ 6 * (B + 1) := Int.mul_le_mul_of_nonneg_right (by omega) (by omega)
    cases hp : P n with
    | true =>
      rw [List.filter_cons, if_pos hp, List.filter_nil, addB_app, i1, if_pos rfl]
      refine ⟨?_, by omega, by omega⟩
      rw [w0 (by omega) (by omega)]
      omega
    | false =>
      rw [List.filter_cons, if_neg (by rw [hp]; decide), List.filter_nil, List.append_nil, i1, if_neg (by decide)]
      exact ⟨by omega, by omega, by omega⟩
theorem Good.isCh {b : List ByteArray} {s : List Int} {n m : Nat} (g : Good b s n m) (p : Nat) : IsCh n (parS s) (penS b (p : Int)) (cS b s (p : Int)) := by
  intro i hi l h0 h3
  have hn5 := g.n5
  obtain ⟨c, rfl⟩ : ∃ c : Nat, l = (c : Int) := ⟨l.toNat, by omega⟩
  have hc : c < 4 := by omega
  rw [at4_get _ c hc, g.fix (p : Int) i hi, getc_cnt4 _ _ _ _ _ _ hc]
  have hpen : pen (isL (rdsS b i)) (rdsS b i) (p : Int) c = penS b (p : Int) i (c : Int) := rfl
  unfold cnt chS
  rw [hpen]
  have hb : 0 ≤ penS b (p : Int) i (c : Int) ∧ penS b (p : Int) i (c : Int) ≤ 1000 := by unfold penS; split <;> omega
  rw [(addB_sum (cS b s (p : Int)) c (fun k => decide (0 < k) && decide (rd s (k : Int) = (i : Int))) _ 10000000 hb.1 hb.2 (by decide) (by decide) n (by omega) (fun k hk => g.bd _ k hk)).1]
  congr 1
  refine sumTo_congr n (fun k hk => ?_)
  by_cases hk1 : 1 ≤ k
  · have ho := g.ok k hk1 hk
    by_cases e : rd s (k : Int) = (i : Int)
    · rw [if_pos (by simp only [Bool.and_eq_true, decide_eq_true_eq]; exact ⟨by omega, e⟩), if_pos ⟨hk1, by unfold parS; omega⟩]
    · rw [if_neg (by simp only [Bool.and_eq_true, decide_eq_true_eq]; exact fun h => e h.2), if_neg (fun h => e (by have := h.2; unfold parS at this; omega))]
  · rw [if_neg (by simp only [Bool.and_eq_true, decide_eq_true_eq]; omega), if_neg (fun h => hk1 h.1)]
theorem Good.par {b : List ByteArray} {s : List Int} {n m : Nat} (g : Good b s n m) : ∀ k, 1 ≤ k → k < n → parS s k < n := by
  intro k h1 h2
  have := g.ok k h1 h2
  unfold parS
  omega
theorem Good.ls0 {b : List ByteArray} {s : List Int} {n m : Nat} (g : Good b s n m) (p : Int) (j : Nat) (hj : j < n) : lS b s p j = (best4 (cS b s p j) (fromP (paS s) (lS b s p) j)).1 := by
  unfold lS
  rw [g.bl]
  refine lF_step _ _ n (fun i hi q hq => ?_) j hj
  unfold paS at hq
  split at hq
  · cases hq
  · have := g.ok i (by omega) hi
    cases hq
    omega
theorem Good.lsA {b : List ByteArray} {s : List Int} {n m : Nat} (g : Good b s n m) (p : Int) : lS b s p 0 = (best4 (cS b s p 0) (-1)).1 := g.ls0 p 0 g.n1
theorem Good.lsB {b : List ByteArray} {s : List Int} {n m : Nat} (g : Good b s n m) (p : Int) (k : Nat) (h1 : 1 ≤ k) (hk : k < n) : lS b s p k = (best4 (cS b s p k) (lS b s p (parS s k))).1 := by
  have h := g.ls0 p k hk
  unfold fromP paS at h
  rw [if_neg (by omega)] at h
  exact h
theorem Good.eq {b : List ByteArray} {s : List Int} {n m : Nat} (g : Good b s n m) (p : Nat) : Lets n (lS b s (p : Int)) ∧ costs n (parS s) (penS b (p : Int)) (lS b s (p : Int)) = (best4 (cS b s (p : Int) 0) (-1)).2 :=
  cost_eq n g.n1 _ _ _ g.par (g.isCh p) _ (g.lsA _) (fun k h1 hk => g.lsB _ k h1 hk)
theorem Good.min {b : List ByteArray} {s : List Int} {n m : Nat} (g : Good b s n m) (p : Nat) (y : Nat → Int) (hy : Lets n y) : costs n (parS s) (penS b (p : Int)) (lS b s (p : Int)) ≤ costs n (parS s) (penS b (p : Int)) y := by
  rw [(g.eq p).2]
  exact cost_ge n g.n1 _ _ _ g.par (g.isCh p) y hy
theorem sumTo_ge (f : Nat → Int) (hf : ∀ i, 0 ≤ f i) (i : Nat) : ∀ n, 0 ≤ sumTo f n ∧ (i < n → f i ≤ sumTo f n)
  | 0 => ⟨by simp [sumTo], fun h => absurd h (by omega)⟩
  | n + 1 => by
    have ih := sumTo_ge f hf i n
    have hn := hf n
    rw [sumTo]
    refine ⟨by omega, fun h => ?_⟩
    by_cases e : i = n
    · subst e; omega
    · have := ih.2 (by omega); omega
theorem sumTo_le1 (f : Nat → Int) (hf : ∀ i, f i ≤ 1) : ∀ n, sumTo f n ≤ n
  | 0 => by simp [sumTo]
  | n + 1 => by
    have ih := sumTo_le1 f hf n
    have hn := hf n
    rw [sumTo]
    omega
/-- The changes of a column. -/
def chg (n : Nat) (s : List Int) (y : Nat → Int) : Int := sumTo (fun k => if 1 ≤ k then dif (y (parS s k)) (y k) else 0) n
theorem dif_bd (a b : Int) : 0 ≤ dif a b ∧ dif a b ≤ 1 := by unfold dif; split <;> omega
theorem chg_bd (n : Nat) (s : List Int) (y : Nat → Int) : 0 ≤ chg n s y ∧ chg n s y ≤ n := by
  unfold chg
  constructor
  · exact (sumTo_ge _ (fun i => by split <;> first | exact (dif_bd _ _).1 | omega) 0 n).1
  · exact sumTo_le1 _ (fun i => by split <;> first | exact (dif_bd _ _).2 | omega) n
theorem costs_chg (n : Nat) (s : List Int) (b : List ByteArray) (p : Int) (y : Nat → Int) : costs n (parS s) (penS b p) y = sumTo (fun i => penS b p i (y i)) n + chg n s y := rfl
theorem Good.keep {b : List ByteArray} {s : List Int} {n m : Nat} (g : Good b s n m) (p : Nat) (hp : p < m) (i : Nat) (hi : i < n) (hl : isL (rdsS b i) = false) : bt (rdsS b i) (p : Int) = 97 + lS b s (p : Int) i := by
  have hn5 := g.n5
  let y0 : Nat → Int := fun i => if isL (rdsS b i) = true then 0 else bt (rdsS b i) (p : Int) - 97
  have hy0 : Lets n y0 := fun j hj => by
    show 0 ≤ (if isL (rdsS b j) = true then 0 else bt (rdsS b j) (p : Int) - 97) ∧ (if isL (rdsS b j) = true then 0 else bt (rdsS b j) (p : Int) - 97) ≤ 3
    rcases g.kind j hj with ⟨k0, k1⟩ | ⟨k0, k1⟩
    · rw [if_pos k0]; omega
    · rw [if_neg (by rw [k0]; decide)]
      have := k1 p hp
      omega
  have h1 := g.min p y0 hy0
  rw [costs_chg, costs_chg] at h1
  have e0 : sumTo (fun i => penS b (p : Int) i (y0 i)) n = 0 := by
    rw [sumTo_congr n (g := fun _ => 0) (fun j hj => ?_), sumTo_zero]
    unfold penS
    refine if_neg (fun h => h.2 ?_)
    show bt (rdsS b j) (p : Int) = 97 + (if isL (rdsS b j) = true then 0 else bt (rdsS b j) (p : Int) - 97)
    rw [if_neg (by rw [h.1]; decide)]
    omega
  have h2 := (chg_bd n s y0).2
  have h3 := (chg_bd n s (lS b s (p : Int))).1
  have h4 := (sumTo_ge (fun i => penS b (p : Int) i (lS b s (p : Int) i)) (fun i => by unfold penS; split <;> omega) i n).2 hi
  by_cases e : bt (rdsS b i) (p : Int) = 97 + lS b s (p : Int) i
  · exact e
  · have h5 : penS b (p : Int) i (lS b s (p : Int) i) = 1000 := if_pos ⟨hl, e⟩
    simp only [h5] at h4
    omega
/-- No letter of a lost manuscript makes fewer changes. -/
theorem Good.one {b : List ByteArray} {s : List Int} {n m : Nat} (g : Good b s n m) (p : Nat) (hp : p < m) (i : Nat) (hi : i < n) (hl : isL (rdsS b i) = true) (c : Int) (c0 : 0 ≤ c) (c3 : c ≤ 3) : chg n s (lS b s (p : Int)) ≤ chg n s (upf (lS b s (p : Int)) i c) := by
  have hL := (g.eq p).1
  have hy : Lets n (upf (lS b s (p : Int)) i c) := fun j hj => by
    by_cases e : j = i
    · subst e; rw [upf_same]; exact ⟨c0, c3⟩
    · rw [upf_ne _ _ _ _ e]; exact hL j hj
  have h1 := g.min p _ hy
  rw [costs_chg, costs_chg] at h1
  have e0 : sumTo (fun j => penS b (p : Int) j (upf (lS b s (p : Int)) i c j)) n = 0 := by
    rw [sumTo_congr n (g := fun _ => 0) (fun j hj => ?_), sumTo_zero]
    unfold penS
    refine if_neg (fun h => h.2 ?_)
    by_cases e : j = i
    · subst e; rw [hl] at h; exact absurd h.1 (by decide)
    · rw [upf_ne _ _ _ _ e]; exact g.keep p hp j hj h.1
  have h3 := (sumTo_ge (fun j => penS b (p : Int) j (lS b s (p : Int) j)) (fun i => by unfold penS; split <;> omega) 0 n).1
  omega
/-! ### the bytes of filled texts -/
theorem ltr_data (v : Int) (h0 : 0 ≤ v) (h3 : v ≤ 3) : (ltr v).data.toList = [UInt8.ofNat (97 + v).toNat] := by
  have : v = 0 ∨ v = 1 ∨ v = 2 ∨ v = 3 := by omega
  rcases this with rfl | rfl | rfl | rfl <;> rfl
theorem bt_left (x y : ByteArray) (j : Nat) (h : j < x.size) : bt (x ++ y) (j : Int) = bt x (j : Int) := by
  have hs : (x ++ y).size = x.size + y.size := ByteArray.size_append
  rw [bt_get (x ++ y) j (by omega), bt_get x j h]
  congr 2
  have e : (x ++ y).data.toList = x.data.toList ++ y.data.toList := by
    rw [ByteArray.data_append, Array.toList_append]
  simp only [e]
  rw [List.getElem_append_left]
theorem bt_right (x y : ByteArray) (j : Nat) (h : j < y.size) : bt (x ++ y) ((x.size + j : Nat) : Int) = bt y (j : Int) := by
  have hs : (x ++ y).size = x.size + y.size := ByteArray.size_append
  rw [bt_get (x ++ y) _ (by omega), bt_get y j h]
  congr 2
  have e : (x ++ y).data.toList = x.data.toList ++ y.data.toList := by
    rw [ByteArray.data_append, Array.toList_append]
  have l : x.data.toList.length = x.size := by simp
  simp only [e]
  rw [List.getElem_append_right (by omega)]
  congr 1
  omega
theorem bt_ltr (v : Int) (h0 : 0 ≤ v) (h3 : v ≤ 3) : bt (ltr v) 0 = 97 + v := by
  have : v = 0 ∨ v = 1 ∨ v = 2 ∨ v = 3 := by omega
  rcases this with rfl | rfl | rfl | rfl <;> rfl
theorem bt_fill (y : Nat → Int) : ∀ m q, q < m → 0 ≤ y q → y q ≤ 3 → bt (fillTo y m) (q : Int) = 97 + y q
  | 0, q, h, _, _ => absurd h (by omega)
  | m + 1, q, h, h0, h3 => by
    rw [fillTo]
    by_cases e : q = m
    · subst e
      have := bt_right (fillTo y q) (ltr (y q)) 0 (by rw [ltr_size]; omega)
      rw [fillTo_size, Nat.add_zero] at this
      rw [this]
      exact bt_ltr _ h0 h3
    · rw [bt_left _ _ q (by rw [fillTo_size]; omega)]
      exact bt_fill y m q (by omega) h0 h3
theorem bt_inj (x y : ByteArray) (hs : x.size = y.size) (h : ∀ j, j < x.size → bt x (j : Int) = bt y (j : Int)) : x = y := by
  have e : x.data.toList = y.data.toList := by
    refine List.ext_getElem (by simpa using hs) (fun j h1 h2 => ?_)
    have h1' : j < x.size := by simpa using h1
    have h2' : j < y.size := by simpa using h2
    have := h j h1'
    rw [bt_get x j h1', bt_get y j h2'] at this
    exact UInt8.toNat_inj.1 (by omega)
  obtain ⟨⟨x⟩⟩ := x
  obtain ⟨⟨y⟩⟩ := y
  simp only at e
  rw [e]
theorem lit_ltr (v : Int) (h0 : 0 ≤ v) (h3 : v ≤ 3) : ((⟨#[97, 98, 99, 100]⟩ : ByteArray).extract (v : Int).toNat ((wrap64 (v + 1)) : Int).toNat) = ltr v := by
  have : v = 0 ∨ v = 1 ∨ v = 2 ∨ v = 3 := by omega
  rcases this with rfl | rfl | rfl | rfl <;> decide +kernel
/-! ### what the reference fills -/
theorem Good.lsb {b : List ByteArray} {s : List Int} {n m : Nat} (g : Good b s n m) (p j : Nat) (hj : j < n) : 0 ≤ lS b s (p : Int) j ∧ lS b s (p : Int) j ≤ 3 := (g.eq p).1 j hj
theorem fill_l2 {b : List ByteArray} {s : List Int} {n m : Nat} (g : Good b s n m) (p : Nat) (hp : p < m) (K : Nat) (R : Option (List ByteArray × Bool)) (h : ∀ k, K ≤ k → spec_StemFill.l1 k b s (fl b s n p) ((p + 1 : Nat) : Int) = R) : ∀ (d i : Nat), i + d = n → ∀ k, K + d + 30 ≤ k → spec_StemFill.l2 k b s (fl b s i p) (p : Int) (mapE n (fun j => toL (cS b s (p : Int) j))) (i : Int) = R := by
  intro d
  have hn5 := g.n5
  have hm5 := g.m5
  have hbl := g.bl
  have hsl := g.sl
  induction d with
  | zero =>
    intro i hi k hk
    obtain ⟨k, rfl⟩ : ∃ m, k = m + 1 := ⟨k - 1, by omega⟩
    simp only [spec_StemFill.l2]
    rw [if_neg (by omega), w1 (by omega), show i = n by omega]
    exact h k (by omega)
  | succ d ih =>
    intro i hi k hk
    obtain ⟨k, rfl⟩ : ∃ m, k = m + 1 := ⟨k - 1, by omega⟩
    have hin : i < n := by omega
    have hv := g.lsb p i hin
    have hfi : rdOf ByteArray.empty (fl b s i p) (i : Int) = fillTo (fun q => lS b s (q : Int) i) p := by
      rw [fl_get _ _ _ _ _ (by omega), if_neg (by omega)]
    have hend : ∀ v, v = lS b s (p : Int) i → (fl b s i p).set (i : Int).toNat (fillTo (fun q => lS b s (q : Int) i) p ++ ((⟨#[97, 98, 99, 100]⟩ : ByteArray).extract (v : Int).toNat ((wrap64 (v + 1)) : Int).toNat)) = fl b s (i + 1) p := by
      intro v hv2
      subst hv2
      rw [lit_ltr _ hv.1 hv.2, Int.toNat_natCast]
      exact fl_set _ _ _ _ _ rfl
    have hsize : ∀ v, v = lS b s (p : Int) i → (fillTo (fun q => lS b s (q : Int) i) p).size + ((⟨#[97, 98, 99, 100]⟩ : ByteArray).extract (v : Int).toNat ((wrap64 (v + 1)) : Int).toNat).size ≤ 9223372036854775807 := by
      intro v hv2
      subst hv2
      rw [lit_ltr _ hv.1 hv.2, ltr_size, fillTo_size]
      omega
    have hw : wrap64 (lS b s (p : Int) i + 1) = lS b s (p : Int) i + 1 := w0 (by omega) (by omega)
    simp only [spec_StemFill.l2]
    rw [if_pos (by omega)]
    by_cases h0 : i = 0
    · rw [if_neg (by omega), if_pos (by omega), if_pos (by rw [mapE_len]; omega), mapE_get n _ i hin, let_f _ _ (g.bd _ i hin) (by decide) (-1) k (by omega), Option.bind_some]
      have e : (best4 (cS b s (p : Int) i) (-1)).1 = lS b s (p : Int) i := by
        subst h0; exact (g.lsA _).symm
      rw [e, if_pos (by rw [fl_len]; omega), if_pos hv.1, hfi, if_pos (by omega), if_pos (by omega), if_pos (hsize _ rfl), hend _ rfl, w1 (by omega)]
      exact ih (i + 1) (by omega) k (by omega)
    · have ho := g.ok i (by omega) hin
      have hq : rd s (i : Int) = ((parS s i : Nat) : Int) := by unfold parS; omega
      have hqi : parS s i < i := by omega
      have hfq : rdOf ByteArray.empty (fl b s i p) (rd s (i : Int)) = fillTo (fun q => lS b s (q : Int) (parS s i)) (p + 1) := by
        rw [hq, fl_get _ _ _ _ _ (by omega), if_pos hqi]
      have hvq := g.lsb p (parS s i) (by omega)
      rw [if_pos (by omega), if_pos (by omega), if_pos (by omega), if_pos (by omega), if_pos (by rw [fl_len]; omega), if_pos (by omega), hfq, if_pos (by rw [fillTo_size]; omega), if_pos (by rw [mapE_len]; omega), mapE_get n _ i hin]
      rw [bt_fill (fun q => lS b s (q : Int) (parS s i)) (p + 1) p (by omega) hvq.1 hvq.2]
      rw [show (97 + lS b s (p : Int) (parS s i) - 97) % 256 = lS b s (p : Int) (parS s i) by omega]
      rw [let_f _ _ (g.bd _ i hin) (by decide) _ k (by omega), Option.bind_some]
      have e : (best4 (cS b s (p : Int) i) (lS b s (p : Int) (parS s i))).1 = lS b s (p : Int) i := (g.lsB _ i (by omega) hin).symm
      rw [e, if_pos (by rw [fl_len]; omega), if_pos hv.1, hfi, if_pos (by omega), if_pos (by omega), if_pos (hsize _ rfl), hend _ rfl, w1 (by omega)]
      exact ih (i + 1) (by omega) k (by omega)
theorem fill_l1 {b : List ByteArray} {s : List Int} {n m : Nat} (g : Good b s n m) : ∀ (d p : Nat), p + d = m → ∀ k, d * 100 + 1200 ≤ k → spec_StemFill.l1 k b s (fl b s 0 p) (p : Int) = some (fl b s 0 m, true) := by
  intro d
  have hn5 := g.n5
  have hn1 := g.n1
  have hm5 := g.m5
  have hbl := g.bl
  have hsz := g.sz 0 g.n1
  have e0 : rdOf ByteArray.empty b 0 = rdsS b 0 := rfl
  induction d with
  | zero =>
    intro p hp k hk
    obtain ⟨k, rfl⟩ : ∃ m, k = m + 1 := ⟨k - 1, by omega⟩
    simp only [spec_StemFill.l1]
    rw [if_pos (by omega), e0, if_neg (by omega), show p = m by omega]
  | succ d ih =>
    intro p hp k hk
    obtain ⟨k, rfl⟩ : ∃ m, k = m + 1 := ⟨k - 1, by omega⟩
    simp only [spec_StemFill.l1]
    rw [if_pos (by omega), e0, if_pos (by omega), below_f g p (by omega) k (by omega), Option.bind_some]
    have hz := fill_l2 g p (by omega) (d * 100 + 1200) (some (fl b s 0 m, true)) (fun k' hk' => by
      have := fl_next b s p
      rw [hbl] at this
      rw [this]
      exact ih (p + 1) (by omega) k' hk') n 0 (by omega) k (by omega)
    exact hz
theorem fill_l0 {b : List ByteArray} {s : List Int} {n m : Nat} (g : Good b s n m) : ∀ (d i : Nat), i + d = n → ∀ k, d + 2000 ≤ k → spec_StemFill.l0 k b s (List.replicate i (⟨#[]⟩ : ByteArray)) (i : Int) = some (fl b s 0 m, true) := by
  intro d
  have hn5 := g.n5
  have hm5 := g.m5
  have hbl := g.bl
  induction d with
  | zero =>
    intro i hi k hk
    obtain ⟨k, rfl⟩ : ∃ m, k = m + 1 := ⟨k - 1, by omega⟩
    simp only [spec_StemFill.l0]
    rw [if_neg (by omega), show i = b.length by omega, ← fl_zero b s]
    exact fill_l1 g m 0 (by omega) k (by omega)
  | succ d ih =>
    intro i hi k hk
    obtain ⟨k, rfl⟩ : ∃ m, k = m + 1 := ⟨k - 1, by omega⟩
    simp only [spec_StemFill.l0]
    rw [if_pos (by omega), if_pos (by rw [List.length_replicate]; omega), w1 (by omega), show List.replicate i (⟨#[]⟩ : ByteArray) ++ [(⟨#[]⟩ : ByteArray)] = List.replicate (i + 1) (⟨#[]⟩ : ByteArray) from List.replicate_succ'.symm]
    exact ih (i + 1) (by omega) k (by omega)
theorem fillS_fl {b : List ByteArray} {s : List Int} {n m : Nat} (g : Good b s n m) : fillS b s = fl b s 0 m := by
  unfold fillS
  rw [g.sz 0 g.n1]
theorem sfill_f (b : List ByteArray) (s : List Int) (hb : Small 5 b) (hs : s.length ≤ 5) (k : Nat) (hk : 3000 ≤ k) : spec_StemFill.f k b s = some (if SV b s = true then (fillS b s, true) else ([], false)) := by
  unfold spec_StemFill.f
  rw [Option.bind_some, svs_f b s hb hs k (by omega), Option.bind_some]
  cases hv : SV b s with
  | false => rfl
  | true =>
    obtain ⟨g, _⟩ := good_of b s hb hv
    rw [if_pos rfl, if_pos rfl, fillS_fl g]
    have hn5 := g.n5
    exact fill_l0 g b.length 0 (by omega) k (by omega)
theorem okB_of {b : List ByteArray} {s : List Int} {n m : Nat} (g : Good b s n m) : okB b s = true := by
  rw [okB_ok]
  have hbl := g.bl
  subst hbl
  have h0 := g.sz 0 g.n1
  have hm5 := g.m5
  exact ⟨g.n1, Nat.le_trans g.n5 (by decide), g.sl, g.ok, fun j hj => by rw [g.sz j hj, h0], by omega⟩
theorem ifill_f (b : List ByteArray) (s : List Int) (hb : Small 5 b) (hs : s.length ≤ 5) (k : Nat) (hk : 200 ≤ k) : impl_StemFill.f k b s = some (if SV b s = true then (fillS b s, true) else ([], false)) := by
  unfold impl_StemFill.f
  rw [svi_f b s hb hs k (by omega), Option.bind_some]
  cases hv : SV b s with
  | false => rfl
  | true =>
    obtain ⟨g, _⟩ := good_of b s hb hv
    rw [if_pos rfl, okB_of g]
    rfl
/-! ### lists of letters, and their changes -/
def Lt (n m : Nat) (Y : Nat → Nat → Int) : List ByteArray := (List.range n).map (fun j => fillTo (fun q => Y q j) m)
theorem Lt_len (n m : Nat) (Y : Nat → Nat → Int) : (Lt n m Y).length = n := by simp [Lt]
theorem Lt_get (n m : Nat) (Y : Nat → Nat → Int) (j : Nat) (h : j < n) : rdOf ByteArray.empty (Lt n m Y) (j : Int) = fillTo (fun q => Y q j) m := by
  unfold rdOf Lt
  rw [Int.toNat_natCast]
  simp [List.getD_eq_getElem?_getD, h]
theorem fl_Lt (b : List ByteArray) (s : List Int) (n m : Nat) (h : b.length = n) : fl b s 0 m = Lt n m (fun q j => lS b s (q : Int) j) := by
  unfold fl Lt
  rw [h]
  exact List.map_congr_left (fun j _ => by rw [if_neg (by omega)])
def Let4 (n m : Nat) (Y : Nat → Nat → Int) : Prop := ∀ p, p < m → ∀ j, j < n → 0 ≤ Y p j ∧ Y p j ≤ 3
theorem dif_comm (a b : Int) : dif a b = dif b a := by
  unfold dif
  by_cases h : a = b
  · rw [if_neg (by simp [h]), if_neg (by simp [h])]
  · rw [if_pos h, if_pos (fun e => h e.symm)]
theorem far_l0 (x y : ByteArray) (m : Nat) (hx : x.size = m) (hy : y.size = m) (hm : m ≤ 100) : ∀ (d i k : Nat), i + d = m → d + 1 ≤ k → impl_farBetween.l0 k x y (sumTo (fun p => dif (bt x (p : Int)) (bt y (p : Int))) i) (m : Int) (i : Int) = some (sumTo (fun p => dif (bt x (p : Int)) (bt y (p : Int))) m) := by
  intro d
  induction d with
  | zero =>
    intro i k hi hk
    obtain ⟨k, rfl⟩ : ∃ m, k = m + 1 := ⟨k - 1, by omega⟩
    simp only [impl_farBetween.l0]
    rw [if_neg (by omega), show i = m by omega]
  | succ d ih =>
    intro i k hi hk
    obtain ⟨k, rfl⟩ : ∃ m, k = m + 1 := ⟨k - 1, by omega⟩
    have h1 := (sumTo_ge (fun p => dif (bt x (p : Int)) (bt y (p : Int))) (fun p => (dif_bd _ _).1) 0 i).1
    have h2 := sumTo_le1 (fun p => dif (bt x (p : Int)) (bt y (p : Int))) (fun p => (dif_bd _ _).2) i
    have h3 := ih (i + 1) k (by omega) (by omega)
    rw [sumTo] at h3
    simp only [impl_farBetween.l0]
    rw [if_pos (by omega), if_pos (by omega), if_pos (by omega), if_pos (by omega), w1 (by omega)]
    by_cases e : bt x (i : Int) = bt y (i : Int)
    · rw [if_pos e]
      have : dif (bt x (i : Int)) (bt y (i : Int)) = 0 := by unfold dif; rw [if_neg (by simp [e])]
      rw [this, Int.add_zero] at h3
      exact h3
    · rw [if_neg e]
      have : dif (bt x (i : Int)) (bt y (i : Int)) = 1 := by unfold dif; rw [if_pos e]
      rw [this] at h3
      rw [w0 (by omega) (by omega)]
      exact h3
theorem far_f (x y : ByteArray) (m : Nat) (hx : x.size = m) (hy : y.size = m) (hm : m ≤ 100) (k : Nat) (hk : m + 1 ≤ k) : impl_farBetween.f k x y = some (sumTo (fun p => dif (bt x (p : Int)) (bt y (p : Int))) m) := by
  unfold impl_farBetween.f
  rw [hx]
  exact far_l0 x y m hx hy hm m 0 k (by omega) (by omega)
theorem sumTo_le5 (f : Nat → Int) (B : Int) (hf : ∀ i, f i ≤ B) : ∀ n, sumTo f n ≤ n * B
  | 0 => by simp [sumTo]
  | n + 1 => by
    have ih := sumTo_le5 f B hf n
    have hn := hf n
    rw [sumTo, show ((n + 1 : Nat) : Int) * B = (n : Int) * B + B by rw [show ((n + 1 : Nat) : Int) = (n : Int) + 1 by omega, Int.add_mul, Int.one_mul]]
    omega
/-- The changes of all columns. -/
def CH (n m : Nat) (s : List Int) (Y : Nat → Nat → Int) : Int := sumTo (fun k => if 1 ≤ k then sumTo (fun p => dif (Y p (parS s k)) (Y p k)) m else 0) n
theorem sumTo_swap2 (f : Nat → Nat → Int) (m : Nat) : ∀ n, sumTo (fun k => sumTo (f k) m) n = sumTo (fun p => sumTo (fun k => f k p) n) m
  | 0 => by simp only [sumTo]; exact (sumTo_zero m).symm
  | n + 1 => by
    simp only [sumTo]
    rw [sumTo_swap2 f m n, ← sumTo_add]
theorem CH_cols (n m : Nat) (s : List Int) (Y : Nat → Nat → Int) : CH n m s Y = sumTo (fun p => chg n s (Y p)) m := by
  unfold CH chg
  rw [← sumTo_swap2]
  refine sumTo_congr n (fun k _ => ?_)
  by_cases h : 1 ≤ k
  · rw [if_pos h]
    exact sumTo_congr m (fun p _ => by rw [if_pos h])
  · rw [if_neg h, sumTo_congr m (g := fun _ => 0) (fun p _ => by rw [if_neg h]), sumTo_zero]
theorem far_lt (n m : Nat) (Y : Nat → Nat → Int) (hY : Let4 n m Y) (i j : Nat) (hi : i < n) (hj : j < n) (hm : m ≤ 5) (k : Nat) (hk : 10 ≤ k) : impl_farBetween.f k (fillTo (fun q => Y q i) m) (fillTo (fun q => Y q j) m) = some (sumTo (fun p => dif (Y p j) (Y p i)) m) := by
  rw [far_f _ _ m (fillTo_size _ _) (fillTo_size _ _) (by omega) k (by omega)]
  congr 1
  refine sumTo_congr m (fun p hp => ?_)
  have h1 := hY p hp i hi
  have h2 := hY p hp j hj
  rw [bt_fill (fun q => Y q i) m p hp h1.1 h1.2, bt_fill (fun q => Y q j) m p hp h2.1 h2.2, dif_comm]
  unfold dif
  by_cases e : Y p j = Y p i
  · rw [if_neg (by simp [e]), if_neg (by simp [e])]
  · rw [if_pos (by omega), if_pos e]
theorem chgs_l0 (n m : Nat) (s : List Int) (hs : s.length = n) (hok : StemOk n s) (hn : n ≤ 5) (hm : m ≤ 5) (Y : Nat → Nat → Int) (hY : Let4 n m Y) : ∀ (d i k : Nat), i + d = n → 1 ≤ i → d + 20 ≤ k → impl_changesOf.l0 k (Lt n m Y) s (sumTo (fun k => if 1 ≤ k then sumTo (fun p => dif (Y p (parS s k)) (Y p k)) m else 0) i) (i : Int) = some (CH n m s Y) := by
  intro d
  induction d with
  | zero =>
    intro i k hi h1 hk
    obtain ⟨k, rfl⟩ : ∃ m, k = m + 1 := ⟨k - 1, by omega⟩
    simp only [impl_changesOf.l0]
    rw [if_neg (by rw [Lt_len]; omega), show i = n by omega]
    rfl
  | succ d ih =>
    intro i k hi h1 hk
    obtain ⟨k, rfl⟩ : ∃ m, k = m + 1 := ⟨k - 1, by omega⟩
    have ho := hok i (by omega) (by omega)
    have hq : rd s (i : Int) = ((parS s i : Nat) : Int) := by unfold parS; omega
    have b1 : ∀ k, 0 ≤ sumTo (fun p => dif (Y p (parS s k)) (Y p k)) m ∧ sumTo (fun p => dif (Y p (parS s k)) (Y p k)) m ≤ 5 := fun k => by
      have h1 := (sumTo_ge (fun p => dif (Y p (parS s k)) (Y p k)) (fun p => (dif_bd _ _).1) 0 m).1
      have h2 := sumTo_le1 (fun p => dif (Y p (parS s k)) (Y p k)) (fun p => (dif_bd _ _).2) m
      omega
    have h2 := (sumTo_ge (fun k => if 1 ≤ k then sumTo (fun p => dif (Y p (parS s k)) (Y p k)) m else 0) (fun k => by split <;> first | exact (b1 k).1 | omega) 0 i).1
    have h3 := sumTo_le5 (fun k => if 1 ≤ k then sumTo (fun p => dif (Y p (parS s k)) (Y p k)) m else 0) 5 (fun k => by split <;> first | exact (b1 k).2 | omega) i
    have h4 := ih (i + 1) k (by omega) (by omega) (by omega)
    rw [sumTo] at h4
    simp only [if_pos h1] at h4
    have b2 := b1 i
    simp only [impl_changesOf.l0]
    rw [if_pos (by rw [Lt_len]; omega), if_pos (by omega), if_pos (by omega), if_pos (by omega), if_pos (by rw [Lt_len]; omega), hq, Lt_get n m Y i (by omega), Lt_get n m Y (parS s i) (by omega), far_lt n m Y hY i (parS s i) (by omega) (by omega) hm k (by omega), Option.bind_some, w1 (by omega), w0 (by omega) (by omega)]
    exact h4
theorem chgs_f (n m : Nat) (s : List Int) (hs : s.length = n) (hok : StemOk n s) (hn1 : 1 ≤ n) (hn : n ≤ 5) (hm : m ≤ 5) (Y : Nat → Nat → Int) (hY : Let4 n m Y) (k : Nat) (hk : 100 ≤ k) : impl_changesOf.f k (Lt n m Y) s = some (CH n m s Y) := by
  unfold impl_changesOf.f
  have h := chgs_l0 n m s hs hok hn hm Y hY (n - 1) 1 k (by omega) (by omega) (by omega)
  exact h
theorem cntL_zero : ∀ l : List ByteArray, (∀ x ∈ l, lstB x = false) → cntL l = 0
  | [], _ => rfl
  | x :: r, h => by
    rw [cntL, cntL_zero r (fun y hy => h y (List.mem_cons_of_mem _ hy)), h x (List.mem_cons_self ..)]
    rfl
theorem Lt_small (n m : Nat) (hn : n ≤ 5) (hm : m ≤ 5) (Y : Nat → Nat → Int) : Small 5 (Lt n m Y) := by
  refine ⟨by rw [Lt_len]; exact hn, fun x hx => ?_⟩
  obtain ⟨j, _, rfl⟩ := List.mem_map.1 hx
  rw [fillTo_size]
  exact hm
theorem Lt_LB (n m : Nat) (hn1 : 1 ≤ n) (hn : n ≤ 5) (hm1 : 1 ≤ m) (hm : m ≤ 5) (Y : Nat → Nat → Int) (hY : Let4 n m Y) : LB (Lt n m Y) = (0, true) := by
  have e0 : rdOf ByteArray.empty (Lt n m Y) 0 = fillTo (fun q => Y q 0) m := Lt_get n m Y 0 (by omega)
  unfold LB
  rw [e0, fillTo_size, Lt_len, if_pos]
  · rw [cntL_zero]
    intro x hx
    obtain ⟨j, hj, rfl⟩ := List.mem_map.1 hx
    have h := hY 0 (by omega) j (List.mem_range.1 hj)
    unfold lstB
    refine decide_eq_false (fun h2 => ?_)
    have h3 := h2 0 (by rw [fillTo_size]; omega)
    rw [bt_fill (fun q => Y q j) m 0 (by omega) h.1 h.2] at h3
    omega
  · refine ⟨hn1, by omega, hm1, by omega, List.all_eq_true.2 (fun x hx => ?_)⟩
    obtain ⟨j, hj, rfl⟩ := List.mem_map.1 hx
    unfold okX rdgB
    rw [decide_eq_true (fillTo_size _ _), decide_eq_true (fun p hp => ?_)]
    · rfl
    · rw [fillTo_size] at hp
      have h := hY p hp j (List.mem_range.1 hj)
      rw [bt_fill (fun q => Y q j) m p hp h.1 h.2]
      omega
theorem Lt_SV (n m : Nat) (hn1 : 1 ≤ n) (hn : n ≤ 5) (hm1 : 1 ≤ m) (hm : m ≤ 5) (Y : Nat → Nat → Int) (hY : Let4 n m Y) (s : List Int) (hs : s.length = n) (hok : StemOk n s) (h0 : rd s 0 = -1) : SV (Lt n m Y) s = true := by
  unfold SV
  rw [Lt_LB n m hn1 hn hm1 hm Y hY, Lt_len]
  simp only [Bool.and_eq_true, decide_eq_true_eq]
  exact ⟨⟨⟨⟨trivial, by omega⟩, hs⟩, h0⟩, fun i hi h1 => hok i (by omega) (by omega)⟩
theorem stemch_f (n m : Nat) (hn1 : 1 ≤ n) (hn : n ≤ 5) (hm1 : 1 ≤ m) (hm : m ≤ 5) (Y : Nat → Nat → Int) (hY : Let4 n m Y) (s : List Int) (hs : s.length = n) (hok : StemOk n s) (h0 : rd s 0 = -1) (k : Nat) (hk : 200 ≤ k) : impl_StemChanges.f k (Lt n m Y) s = some (CH n m s Y) := by
  unfold impl_StemChanges.f
  rw [svi_f _ _ (Lt_small n m hn hm Y) (by omega) k hk, Option.bind_some, Lt_SV n m hn1 hn hm1 hm Y hY s hs hok h0, if_pos rfl]
  unfold impl_BooksValid.f
  rw [lost_f _ (Lt_small n m hn hm Y) k (by omega), Option.bind_some, Lt_LB n m hn1 hn hm1 hm Y hY]
  simp only [if_true, Option.bind_some]
  rw [if_pos (by decide), chgs_f n m s hs hok hn1 hn hm Y hY k (by omega)]
  rfl
theorem sameT_l0 (x : List ByteArray) (hx : x.length ≤ 100) : ∀ (d i k : Nat), i + d = x.length → d + 1 ≤ k → laws_sameTexts.l0 k x x (i : Int) = some true := by
  intro d
  induction d with
  | zero =>
    intro i k hi hk
    obtain ⟨k, rfl⟩ : ∃ m, k = m + 1 := ⟨k - 1, by omega⟩
    simp only [laws_sameTexts.l0]
    rw [if_neg (by omega)]
  | succ d ih =>
    intro i k hi hk
    obtain ⟨k, rfl⟩ : ∃ m, k = m + 1 := ⟨k - 1, by omega⟩
    simp only [laws_sameTexts.l0]
    rw [if_pos (by omega), if_pos (by omega), if_pos (by omega), if_pos trivial, w1 (by omega)]
    exact ih (i + 1) k (by omega) (by omega)
theorem sameT_f (x : List ByteArray) (hx : x.length ≤ 100) (k : Nat) (hk : 101 ≤ k) : laws_sameTexts.f k x x = some true := by
  unfold laws_sameTexts.f
  rw [if_pos rfl]
  exact sameT_l0 x hx x.length 0 k (by omega) (by omega)
theorem Good.lost {b : List ByteArray} {s : List Int} {n m : Nat} (g : Good b s n m) (i : Nat) (hi : i < n) : laws_lost.f (rdOf ByteArray.empty b (i : Int)) = some (isL (rdsS b i)) := by
  have e : rdOf ByteArray.empty b (i : Int) = rdsS b i := rfl
  have hm1 := g.m1
  have hs := g.sz i hi
  unfold laws_lost.f
  rw [e, if_pos (by omega), if_pos (by omega)]
  congr 1
  rcases g.kind i hi with ⟨k0, k1⟩ | ⟨k0, k1⟩
  · have := k1 0 (by omega)
    rw [show ((0 : Nat) : Int) = 0 from rfl] at this
    rw [k0, this]
    rfl
  · have := k1 0 (by omega)
    rw [show ((0 : Nat) : Int) = 0 from rfl] at this
    rw [k0]
    exact beq_false_of_ne (by omega)
theorem bt_extract (x : ByteArray) (a c j : Nat) (hc : c ≤ x.size) (h : a + j < c) : bt (x.extract a c) (j : Int) = bt x ((a + j : Nat) : Int) := by
  rw [bt_get _ j (by rw [ByteArray.size_extract]; omega), bt_get x (a + j) (by omega)]
  congr 2
  have e : (x.extract a c).data.toList = (x.data.toList.drop a).take (c - a) := by
    rw [ByteArray.data_extract, Array.toList_extract, List.extract_eq_take_drop]
  simp only [e]
  rw [List.getElem_take, List.getElem_drop]
/-- One letter put in place. -/
theorem fill_put (y : Nat → Int) (m q : Nat) (hq : q < m) (c : Int) (c0 : 0 ≤ c) (c3 : c ≤ 3) (hy : ∀ p, p < m → 0 ≤ y p ∧ y p ≤ 3) : ((fillTo y m).extract 0 q ++ ltr c) ++ (fillTo y m).extract (q + 1) m = fillTo (upf y q c) m := by
  have hs := fillTo_size y m
  have z1 : ((fillTo y m).extract 0 q).size = q := by rw [ByteArray.size_extract, hs]; omega
  have z2 : ((fillTo y m).extract 0 q ++ ltr c).size = q + 1 := by rw [ByteArray.size_append, z1, ltr_size]
  have z3 : ((fillTo y m).extract (q + 1) m).size = m - (q + 1) := by rw [ByteArray.size_extract, hs]; omega
  refine bt_inj _ _ (by rw [ByteArray.size_append, z2, z3, fillTo_size]; omega) (fun j hj => ?_)
  have hj2 : j < m := by
    rw [ByteArray.size_append, z2, z3] at hj
    omega
  have hyj := hy j hj2
  by_cases e : j = q
  · subst e
    rw [bt_fill (upf y j c) m j hq (by rw [upf_same]; exact c0) (by rw [upf_same]; exact c3), upf_same, bt_left _ _ j (by omega)]
    have := bt_right ((fillTo y m).extract 0 j) (ltr c) 0 (by rw [ltr_size]; omega)
    rw [z1, Nat.add_zero] at this
    rw [this]
    exact bt_ltr c c0 c3
  · rw [bt_fill (upf y q c) m j hj2 (by rw [upf_ne _ _ _ _ e]; exact hyj.1) (by rw [upf_ne _ _ _ _ e]; exact hyj.2), upf_ne _ _ _ _ e]
    by_cases h1 : j < q
    · rw [bt_left _ _ j (by omega), bt_left _ _ j (by omega), bt_extract _ 0 q j (by omega) (by omega), Nat.zero_add, bt_fill y m j hj2 hyj.1 hyj.2]
    · have := bt_right ((fillTo y m).extract 0 q ++ ltr c) ((fillTo y m).extract (q + 1) m) (j - (q + 1)) (by rw [z3]; omega)
      rw [z2, show q + 1 + (j - (q + 1)) = j by omega] at this
      rw [this, bt_extract _ (q + 1) m _ (by omega) (by omega), show q + 1 + (j - (q + 1)) = j by omega, bt_fill y m j hj2 hyj.1 hyj.2]
theorem Lt_put (n m : Nat) (Y : Nat → Nat → Int) (i q : Nat) (c : Int) (x : ByteArray) (hx : x = fillTo (upf (fun p => Y p i) q c) m) : (Lt n m Y).set i x = Lt n m (upf Y q (upf (Y q) i c)) := by
  refine List.ext_getElem? (fun j => ?_)
  rw [List.getElem?_set]
  have hne : ∀ p, p ≠ q → upf Y q (upf (Y q) i c) p = Y p := fun p hp => upf_ne _ _ _ _ hp
  by_cases e : i = j
  · subst e
    rw [if_pos rfl, Lt_len]
    by_cases h : i < n
    · rw [if_pos h, hx]
      unfold Lt
      rw [List.getElem?_map, List.getElem?_range h]
      simp only [Option.map_some]
      congr 2
      funext p
      by_cases hp : p = q
      · subst hp; rw [upf_same, upf_same, upf_same]
      · rw [upf_ne _ _ _ _ hp, hne p hp]
    · rw [if_neg h, List.getElem?_eq_none (by rw [Lt_len]; omega)]
  · rw [if_neg e]
    unfold Lt
    rw [List.getElem?_map, List.getElem?_map]
    by_cases h : j < n
    · rw [List.getElem?_range h]
      simp only [Option.map_some]
      congr 2
      funext p
      by_cases hp : p = q
      · subst hp; rw [upf_same, upf_ne _ _ _ _ (fun h => e h.symm)]
      · rw [hne p hp]
    · rw [List.getElem?_eq_none (by rw [List.length_range]; omega)]
      rfl
theorem Good.out4 {b : List ByteArray} {s : List Int} {n m : Nat} (g : Good b s n m) : Let4 n m (fun q j => lS b s (q : Int) j) := fun p _ j hj => g.lsb p j hj
theorem Good.outKeep {b : List ByteArray} {s : List Int} {n m : Nat} (g : Good b s n m) (i : Nat) (hi : i < n) (hl : isL (rdsS b i) = false) : fillTo (fun q => lS b s (q : Int) i) m = rdsS b i := by
  refine bt_inj _ _ (by rw [fillTo_size, g.sz i hi]) (fun j hj => ?_)
  rw [fillTo_size] at hj
  have h := g.lsb j i hi
  rw [bt_fill (fun q => lS b s (q : Int) i) m j hj h.1 h.2, g.keep j hj i hi hl]
theorem Good.ch {b : List ByteArray} {s : List Int} {n m : Nat} (g : Good b s n m) (q : Nat) (hq : q < m) (i : Nat) (hi : i < n) (hl : isL (rdsS b i) = true) (c : Int) (c0 : 0 ≤ c) (c3 : c ≤ 3) : CH n m s (fun q j => lS b s (q : Int) j) ≤ CH n m s (upf (fun (q : Nat) j => lS b s (q : Int) j) q (upf (lS b s (q : Int)) i c)) := by
  rw [CH_cols, CH_cols]
  refine sumTo_le m (fun p hp => ?_)
  by_cases e : p = q
  · subst e
    rw [upf_same]
    exact g.one p hp i hi hl c c0 c3
  · rw [upf_ne _ _ _ _ e]
    exact Int.le_refl _
theorem law_j5 {b : List ByteArray} {s : List Int} {n m : Nat} (g : Good b s n m) (hr0 : rd s 0 = -1) (l1 : List Int) (i : Nat) (hi : i < n) (hl : isL (rdsS b i) = true) (c : Nat) (hc : c < 4) (k : Nat) (hk : 300 ≤ k) : laws_FnStemFill.j5 (k + 1) l1 b s (Lt n m (fun q j => lS b s (q : Int) j)) (CH n m s (fun q j => lS b s (q : Int) j)) (i : Int) (c : Int) true = laws_FnStemFill.l1 k l1 b s (Lt n m (fun q j => lS b s (q : Int) j)) (CH n m s (fun q j => lS b s (q : Int) j)) (i : Int) ((c + 1 : Nat) : Int) := by
  have hm1 := g.m1
  have hm5 := g.m5
  have hn5 := g.n5
  obtain ⟨q, hq⟩ : ∃ q : Nat, q = l1.length % m := ⟨_, rfl⟩
  have hqm : q < m := by rw [hq]; exact Nat.mod_lt _ (by omega)
  have hfs := fillTo_size (fun q => lS b s (q : Int) i) m
  have z1 : ((fillTo (fun q => lS b s (q : Int) i) m).extract 0 q).size = q := by
    rw [ByteArray.size_extract, hfs]
    clear hq
    omega
  have z2 : ((fillTo (fun q => lS b s (q : Int) i) m).extract 0 q ++ ltr (c : Int)).size = q + 1 := by rw [ByteArray.size_append, z1, ltr_size]
  have z3 : ((fillTo (fun q => lS b s (q : Int) i) m).extract (q + 1) m).size = m - (q + 1) := by
    rw [ByteArray.size_extract, hfs]
    clear hq
    omega
  have a1 : (0 : Int) ≤ (q : Int) := Int.natCast_nonneg q
  have a2 : (q : Int) ≤ (m : Int) := Int.ofNat_le.2 (Nat.le_of_lt hqm)
  have a3 : (0 : Int) ≤ (c : Int) := Int.natCast_nonneg c
  have a4 : (c : Int) ≤ ((c + 1 : Nat) : Int) := Int.ofNat_le.2 (Nat.le_succ c)
  have a5 : ((c + 1 : Nat) : Int) ≤ 4 := Int.ofNat_le.2 hc
  have a6 : q + 1 ≤ 9223372036854775807 := by clear hq; omega
  have a7 : (0 : Int) ≤ ((q + 1 : Nat) : Int) := Int.natCast_nonneg _
  have a8 : ((q + 1 : Nat) : Int) ≤ (m : Int) := Int.ofNat_le.2 hqm
  have a9 : q + 1 + (m - (q + 1)) ≤ 9223372036854775807 := by clear hq; omega
  have a0 : (i : Int) < (n : Int) := Int.ofNat_lt.2 hi
  have ai : (0 : Int) ≤ (i : Int) := Int.natCast_nonneg i
  have am : ¬ ((m : Int) = 0) := by clear hq; omega
  have an : ([] : List ByteArray).length + n < 8796093022208 := by rw [List.length_nil]; clear hq; omega
  have c3 : (c : Int) ≤ 3 := by clear hq; omega
  have hw : wrap64 ((c : Int) + 1) = ((c + 1 : Nat) : Int) := w1 (by clear hq; omega)
  have hw2 : wrap64 ((q : Int) + 1) = ((q + 1 : Nat) : Int) := w1 (by clear hq; omega)
  have hqi : ((l1.length : Int) % ((m : Nat) : Int)) = (q : Int) := by rw [hq]; rfl
  have hLl := Lt_len n m (fun q j => lS b s (q : Int) j)
  have hLg := Lt_get n m (fun q j => lS b s (q : Int) j) i hi
  have hput := fill_put (fun q => lS b s (q : Int) i) m q hqm (c : Int) a3 c3 (fun p hp => g.lsb p i hi)
  have hset := Lt_put n m (fun q j => lS b s (q : Int) j) i q (c : Int) _ hput
  have hls := lit_ltr (c : Int) a3 c3
  have hZ : Let4 n m (upf (fun (q : Nat) j => lS b s (q : Int) j) q (upf (lS b s (q : Int)) i (c : Int))) := by
    intro p hp j hj
    by_cases e : p = q
    · subst e
      rw [upf_same]
      by_cases e2 : j = i
      · subst e2; rw [upf_same]; exact ⟨a3, c3⟩
      · rw [upf_ne _ _ _ _ e2]; exact g.lsb p j hj
    · rw [upf_ne _ _ _ _ e]; exact g.lsb p j hj
  have hch := stemch_f n m g.n1 hn5 hm1 hm5 _ hZ s g.sl g.ok hr0 k (Nat.le_trans (by decide) hk)
  have hge := Int.not_lt.2 (g.ch q hqm i hi hl (c : Int) a3 c3)
  simp only [laws_FnStemFill.j5]
  rw [if_pos trivial, if_pos ai, hLl, if_pos a0, hLg, hls, hfs, hqi, hw, hw2, Int.toNat_natCast, Int.toNat_natCast, Int.toNat_natCast, if_neg am, Option.bind_some, if_pos an, Option.bind_some, List.nil_append, z2, z3, z1, ltr_size, hLl, if_pos a1, if_pos a2, if_pos a3, if_pos a4, if_pos a5, if_pos a6, if_pos a7, if_pos a8, if_pos a9, if_pos a0, hset, hch, Option.bind_some, if_neg hge]
theorem law_l1f (b : List ByteArray) (s : List Int) (l1 : List Int) (out : List ByteArray) (v : Int) (i : Nat) (hi : i < 100) (c : Int) (k : Nat) : laws_FnStemFill.j5 (k + 1) l1 b s out v (i : Int) c false = laws_FnStemFill.l0 k l1 b s out v ((i + 1 : Nat) : Int) := by
  simp only [laws_FnStemFill.j5]
  rw [if_neg (by decide), w1 (by omega)]
theorem law_l1 {b : List ByteArray} {s : List Int} {n m : Nat} (g : Good b s n m) (hr0 : rd s 0 = -1) (l1 : List Int) (i : Nat) (hi : i < n) (K : Nat) (h : ∀ k, K ≤ k → laws_FnStemFill.l0 k l1 b s (Lt n m (fun q j => lS b s (q : Int) j)) (CH n m s (fun q j => lS b s (q : Int) j)) ((i + 1 : Nat) : Int) = some true) : ∀ (e c : Nat), c + e = 4 → ∀ k, K + e * 2 + 310 ≤ k → laws_FnStemFill.l1 k l1 b s (Lt n m (fun q j => lS b s (q : Int) j)) (CH n m s (fun q j => lS b s (q : Int) j)) (i : Int) (c : Int) = some true := by
  intro e
  have hn5 := g.n5
  have hbl := g.bl
  induction e with
  | zero =>
    intro c hc k hk
    obtain ⟨k, rfl⟩ : ∃ m, k = m + 2 := ⟨k - 2, by omega⟩
    simp only [laws_FnStemFill.l1]
    rw [if_neg (by omega), law_l1f _ _ _ _ _ i (by omega)]
    exact h k (by omega)
  | succ e ih =>
    intro c hc k hk
    obtain ⟨k, rfl⟩ : ∃ m, k = m + 2 := ⟨k - 2, by omega⟩
    simp only [laws_FnStemFill.l1]
    rw [if_pos (by omega), if_pos (by omega), if_pos (by omega), g.lost i hi, Option.bind_some]
    cases hl : isL (rdsS b i) with
    | true =>
      rw [law_j5 g hr0 l1 i hi hl c (by omega) k (by omega)]
      exact ih (c + 1) (by omega) k (by omega)
    | false =>
      rw [law_l1f _ _ _ _ _ i (by omega)]
      exact h k (by omega)
theorem law_l0 {b : List ByteArray} {s : List Int} {n m : Nat} (g : Good b s n m) (hr0 : rd s 0 = -1) (l1 : List Int) : ∀ (d i : Nat), i + d = n → ∀ k, d * 400 + 10 ≤ k → laws_FnStemFill.l0 k l1 b s (Lt n m (fun q j => lS b s (q : Int) j)) (CH n m s (fun q j => lS b s (q : Int) j)) (i : Int) = some true := by
  intro d
  have hn5 := g.n5
  have hbl := g.bl
  have hLl := Lt_len n m (fun q j => lS b s (q : Int) j)
  induction d with
  | zero =>
    intro i hi k hk
    obtain ⟨k, rfl⟩ : ∃ m, k = m + 1 := ⟨k - 1, by omega⟩
    simp only [laws_FnStemFill.l0]
    rw [if_neg (by omega), hLl, hbl, beq_self_eq_true]
  | succ d ih =>
    intro i hi k hk
    obtain ⟨k, rfl⟩ : ∃ m, k = m + 2 := ⟨k - 2, by omega⟩
    have hin : i < n := by omega
    have e : rdOf ByteArray.empty b (i : Int) = rdsS b i := rfl
    have hz := law_l1 g hr0 l1 i hin (d * 400 + 10) (fun k' hk' => ih (i + 1) (by omega) k' hk') 4 0 (by omega) k (by omega)
    have hj3 : laws_FnStemFill.j3 (k + 1) l1 b s (Lt n m (fun q j => lS b s (q : Int) j)) (CH n m s (fun q j => lS b s (q : Int) j)) (i : Int) false = some true := by
      simp only [laws_FnStemFill.j3]
      rw [if_neg (by decide)]
      exact hz
    simp only [laws_FnStemFill.l0]
    rw [if_pos (by omega), if_pos (by omega), g.lost i hin, Option.bind_some]
    cases hl : isL (rdsS b i) with
    | true => rw [if_pos rfl]; exact hj3
    | false =>
      rw [if_neg (by decide), if_pos (by omega), Lt_get n m _ i hin, e, g.outKeep i hin hl, bne_self_eq_false]
      exact hj3
theorem FnStemFill : ∀ (l0 l1 : List Int), l0.length ≤ maxLen → l0.length * 1 ≤ 140737488351232 → (∀ n ∈ l0, (Lit.int .u8 n).wf = true) → l1.length ≤ maxLen → l1.length * 1 ≤ 140737488351232 → (∀ n ∈ l1, (Lit.int .u8 n).wf = true) → ∃ k, laws_FnStemFill.f k l0 l1 = some true := by
  intro l0 l1 z1 z2 hw z3 z4 hw2
  refine ⟨5003, ?_⟩
  have key : ∀ bad, laws_FnStemFill.j0 5003 l0 l1 bad = some true := by
    intro bad
    simp only [laws_FnStemFill.j0]
    cases bad with
    | true => rw [if_pos rfl]
    | false =>
      rw [if_neg (by decide)]
      obtain ⟨b, s, hb, hs, hd⟩ := stem_d l0 (bytes_of hw)
      rw [hd 5002 (by omega), Option.bind_some]
      dsimp only
      rw [ifill_f b s hb hs 5002 (by omega), Option.bind_some, sfill_f b s hb hs 5002 (by omega), Option.bind_some]
      cases hv : SV b s with
      | false =>
        have e2 : (if false = true then (fillS b s, true) else (([] : List ByteArray), false)) = ([], false) := rfl
        rw [e2]
        dsimp only
        rw [if_neg (by decide), sameT_f [] (by decide) 5002 (by omega), Option.bind_some, if_pos rfl]
        simp only [laws_FnStemFill.j1]
        rw [if_pos (by decide), if_pos (by decide), sameT_f [] (by decide) 5001 (by omega)]
        rfl
      | true =>
        obtain ⟨g, hr0⟩ := good_of b s hb hv
        have hn5 := g.n5
        have hbl := g.bl
        rw [if_pos rfl]
        dsimp only
        rw [if_neg (by decide), sameT_f _ (by rw [fillS_fl g, fl_len]; omega) 5002 (by omega), Option.bind_some, if_pos rfl]
        simp only [laws_FnStemFill.j1]
        rw [if_neg (by decide), fillS_fl g, fl_Lt b s _ _ rfl, stemch_f _ _ g.n1 hn5 g.m1 g.m5 _ g.out4 s g.sl g.ok hr0 5001 (by omega), Option.bind_some]
        have hfew : impl_StemFewest.f 5001 b s = some (CH b.length (rdsS b 0).size s (fun q j => lS b s (q : Int) j)) := by
          unfold impl_StemFewest.f
          rw [ifill_f b s hb hs 5001 (by omega), Option.bind_some, hv, if_pos rfl]
          dsimp only
          rw [if_pos rfl, fillS_fl g, fl_Lt b s _ _ rfl, chgs_f _ _ s g.sl g.ok g.n1 hn5 g.m5 _ g.out4 5001 (by omega)]
          rfl
        rw [hfew, Option.bind_some, if_pos rfl]
        exact law_l0 g hr0 l1 b.length 0 (by omega) 5001 (by omega)
  unfold laws_FnStemFill.f
  by_cases h : (l0.length : Int) > 1048576
  · rw [if_pos h]; exact key _
  · rw [if_neg h]; exact key _

end Go.Proofs.YtdodkidnblmheaaDoor.PureFnStemFill
