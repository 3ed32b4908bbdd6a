/- FnDiscantMove: for every list of at most 1048576 bytes, the law of DiscantMove holds of what the reference draws from it, and the list reads as before (longer lists the statement lets pass). The tables letterHeights and leastSemis are tied to the program's text. No condition beyond the statement's own. -/
import Derived.Test.YtcndojoghmblaaaDoorGDx0
import Derived.Test.YtcndojoghmblaaaDoorGDx9
import Derived.Test.YtcndojoghmblaaaDoorGDx3
import Derived.Test.YtcndojoghmblaaaDoorGDx4
import Derived.Test.YtcndojoghmblaaaDoorGDx5
import Derived.Test.YtcndojoghmblaaaDoorGDx6
import Derived.Test.YtcndojoghmblaaaDoorGDx7
import Derived.Test.YtcndojoghmblaaaDoorGDx8
import Derived.Test.YtcndojoghmblaaaDoorGDx12
import Derived.Test.YtcndojoghmblaaaDoorGDx11
import Derived.Test.YtcndojoghmblaaaDoorGDx10
import Derived.Test.YtcndojoghmblaaaDoorGDx13
import Derived.Laws.Bits64
namespace Go.Proofs.YtcndojoghmblaaaDoor.PureFnDiscantMove
open Go.RowKit Go.Proofs.YtcndojoghmblaaaDoor.GD Go.Proofs.YtcndojoghmblaaaDoorW.PrintWords Go.Proofs.YtcndojoghmblaaaDoorW.PrintLast Go.Proofs.YtcndojoghmblaaaDoorW.PrintMore 
set_option linter.unusedVariables false
set_option linter.unusedSimpArgs false
theorem w1 {i : Nat} (h : i < 4611686018427387904) : wrap64 ((i : Int) + 1) = ((i + 1 : Nat) : Int) := by
  unfold wrap64
  omega
theorem w0 {i : Int} (h : -9223372036854775808 ≤ i) (h' : i ≤ 9223372036854775807) : wrap64 i = i := by
  unfold wrap64
  omega
theorem rd_at (xs : List Int) (i : Nat) (h : i < xs.length) : rd xs (i : Int) = xs[i] := by
  simp [rd, List.getD_eq_getElem?_getD, h]
/-- A tone of the gamut. -/
def tv (a : Int) (b : Bool) : Bool := decide (0 ≤ a) && (decide (a ≤ 20) && (!b || decide (Int.tmod a 7 = 2)))
theorem tv_spec (a : Int) (b : Bool) : spec_ToneValid.f a b = some (tv a b) := by
  unfold spec_ToneValid.f spec_l6In.f spec_l1Letter.f tv
  by_cases h0 : a ≥ 0
  · rw [if_pos h0, decide_eq_true (show 0 ≤ a from h0)]
    by_cases h1 : a ≤ 20
    · simp only [h1, decide_true, Option.bind_some, if_true, Bool.true_and]
      cases b
      · rfl
      · simp
        rfl
    · simp [h1]
  · rw [if_neg h0, decide_eq_false (show ¬ 0 ≤ a from h0)]
    rfl
theorem tv_impl (a : Int) (b : Bool) : impl_Tone_valid.f a b = some (tv a b) := by
  unfold impl_Tone_valid.f tv
  by_cases h0 : a ≥ 0
  · rw [if_pos h0, decide_eq_true (show 0 ≤ a from h0)]
    by_cases h1 : a ≤ 20
    · rw [if_pos h1, decide_eq_true h1]
      cases b
      · rfl
      · simp
        rfl
    · rw [if_neg h1, decide_eq_false h1]
      rfl
  · rw [if_neg h0, decide_eq_false (show ¬ 0 ≤ a from h0)]
    rfl
theorem in_spec (a b c : Int) : spec_l6In.f a b c = some (decide (b ≤ a) && decide (a ≤ c)) := by
  unfold spec_l6In.f
  by_cases h0 : a ≥ b
  · rw [if_pos h0, decide_eq_true (show b ≤ a from h0)]; rfl
  · rw [if_neg h0, decide_eq_false (show ¬ b ≤ a from h0)]; rfl
def vv (v : S44) : Bool := tv v.f0.f0 v.f0.f1 && (decide (1 ≤ v.f1) && decide (v.f1 ≤ 3))
theorem rdv_at (xs : List S44) (i : Nat) (h : i < xs.length) : rd_T44 xs (i : Int) = xs[i] := by
  simp [rd_T44, List.getD_eq_getElem?_getD, h]
def sumB (l : List S44) : Int := (l.map (·.f1)).sum
theorem sumB_cons (v : S44) (l : List S44) : sumB (v :: l) = v.f1 + sumB l := by simp [sumB]
theorem vv_bd {v : S44} (h : vv v = true) : 1 ≤ v.f1 ∧ v.f1 ≤ 3 := by
  unfold vv at h
  simp only [Bool.and_eq_true, decide_eq_true_eq] at h
  exact h.2
theorem sumB_bd (l : List S44) (h : l.all vv = true) : 0 ≤ sumB l ∧ sumB l ≤ 3 * l.length := by
  induction l with
  | nil => simp [sumB]
  | cons v l ih =>
    simp only [List.all_cons, Bool.and_eq_true] at h
    have h1 := vv_bd h.1
    have h2 := ih h.2
    rw [sumB_cons, List.length_cons]
    omega
def PV (l : List S44) : Bool := decide (l.length ≤ 12) && (l.all vv && decide (sumB l ≤ 24))
theorem PV_len {l : List S44} (h : PV l = true) : l.length ≤ 12 := by
  unfold PV at h
  simp only [Bool.and_eq_true, decide_eq_true_eq] at h
  exact h.1
theorem PV_all {l : List S44} (h : PV l = true) : l.all vv = true := by
  unfold PV at h
  simp only [Bool.and_eq_true, decide_eq_true_eq] at h
  exact h.2.1
theorem PV_sum {l : List S44} (h : PV l = true) : sumB l ≤ 24 := by
  unfold PV at h
  simp only [Bool.and_eq_true, decide_eq_true_eq] at h
  exact h.2.2
theorem beats_l0 (l : List S44) (hl : l.length ≤ 12) (hv : l.all vv = true) : ∀ (d i k : Nat) (a : Int), i + d = l.length → d < k → 0 ≤ a → a ≤ 3 * i → spec_l8Beats.l0 k l a (i : Int) = some (a + sumB (l.drop i)) := by
  intro d
  induction d with
  | zero =>
    intro i k a hi hk h0 h1
    obtain ⟨k, rfl⟩ : ∃ m, k = m + 1 := ⟨k - 1, by omega⟩
    simp only [spec_l8Beats.l0]
    rw [if_neg (by omega), List.drop_eq_nil_of_le (by omega)]
    simp [sumB]
  | succ d ih =>
    intro i k a hi hk h0 h1
    obtain ⟨k, rfl⟩ : ∃ m, k = m + 1 := ⟨k - 1, by omega⟩
    have hx : i < l.length := by omega
    have hb := vv_bd (List.all_eq_true.1 hv _ (List.getElem_mem hx))
    simp only [spec_l8Beats.l0]
    rw [if_pos (by omega), if_pos (by omega), rdv_at l i hx, w1 (by omega), w0 (by omega) (by omega), ih (i + 1) k _ (by omega) (by omega) (by omega) (by omega), List.drop_eq_getElem_cons hx, sumB_cons]
    congr 1
    omega
theorem beats_f (l : List S44) (hl : l.length ≤ 12) (hv : l.all vv = true) (k : Nat) (hk : 13 ≤ k) : spec_l8Beats.f k l = some (sumB l) := by
  unfold spec_l8Beats.f
  simpa using beats_l0 l hl hv l.length 0 k 0 (by omega) (by omega) (by omega) (by omega)
theorem pvs_l0 (l : List S44) (hb : l.length < 4611686018427387904) : ∀ (d i k : Nat), i + d = l.length → d + 14 < k → (l.take i).all vv = true → spec_PartValid.l0 k l (i : Int) = some (PV l) := by
  intro d
  induction d with
  | zero =>
    intro i k hi hk hv
    obtain ⟨k, rfl⟩ : ∃ m, k = m + 1 := ⟨k - 1, by omega⟩
    rw [List.take_of_length_le (by omega)] at hv
    simp only [spec_PartValid.l0]
    rw [if_neg (by omega)]
    unfold PV
    rw [hv]
    by_cases hl : l.length ≤ 12
    · rw [if_pos (by omega), beats_f l hl hv k (by omega), decide_eq_true hl]
      rfl
    · rw [if_neg (by omega), decide_eq_false hl]
      rfl
  | succ d ih =>
    intro i k hi hk hv
    obtain ⟨k, rfl⟩ : ∃ m, k = m + 1 := ⟨k - 1, by omega⟩
    have hx : i < l.length := by omega
    simp only [spec_PartValid.l0]
    rw [if_pos (by omega), if_pos (by omega), rdv_at l i hx, tv_spec, in_spec]
    simp only [Option.bind_some]
    by_cases hvi : vv l[i] = true
    · have hvi2 := hvi
      unfold vv at hvi2
      simp only [Bool.and_eq_true] at hvi2
      rw [if_pos hvi2.1, if_pos (by simpa using hvi2.2), w1 (by omega)]
      refine ih (i + 1) k (by omega) (by omega) ?_
      rw [List.take_succ_eq_append_getElem hx, List.all_append, hv]
      simp [hvi]
    · have hF : PV l = false := by
        have : l.all vv = false := by
          rw [Bool.eq_false_iff]
          intro h
          exact hvi (List.all_eq_true.1 h _ (List.getElem_mem hx))
        unfold PV
        rw [this]
        simp
      rw [hF]
      unfold vv at hvi
      by_cases h1 : tv l[i].f0.f0 l[i].f0.f1 = true
      · rw [if_pos h1]
        rw [h1, Bool.true_and] at hvi
        rw [if_neg hvi]
      · rw [if_neg h1]
theorem pvs_f (l : List S44) (hb : l.length ≤ 1048576) (k : Nat) (hk : l.length + 15 < k) : spec_PartValid.f k l = some (PV l) := by
  unfold spec_PartValid.f
  simpa using pvs_l0 l (by omega) l.length 0 k (by omega) (by omega) (by simp)
theorem pvi_l0 (l : List S44) (hl : l.length ≤ 12) : ∀ (d i k : Nat) (a : Int), i + d = l.length → d < k → 0 ≤ a → a ≤ 3 * i → impl_PartValid.l0 k a l (l.length : Int) (i : Int) = some ((l.drop i).all vv && decide (a + sumB (l.drop i) ≤ 24)) := by
  intro d
  induction d with
  | zero =>
    intro i k a hi hk h0 h1
    obtain ⟨k, rfl⟩ : ∃ m, k = m + 1 := ⟨k - 1, by omega⟩
    simp only [impl_PartValid.l0]
    rw [if_neg (by omega), List.drop_eq_nil_of_le (by omega)]
    simp [sumB]
  | succ d ih =>
    intro i k a hi hk h0 h1
    obtain ⟨k, rfl⟩ : ∃ m, k = m + 1 := ⟨k - 1, by omega⟩
    have hx : i < l.length := by omega
    simp only [impl_PartValid.l0]
    rw [if_pos (by omega), if_pos (by omega), if_pos (by omega), rdv_at l i hx, tv_impl, List.drop_eq_getElem_cons hx, sumB_cons, List.all_cons]
    simp only [Option.bind_some]
    by_cases ht : tv l[i].f0.f0 l[i].f0.f1 = true
    · rw [if_pos ht]
      by_cases h3 : l[i].f1 < 1
      · rw [if_pos h3]
        have : vv l[i] = false := by unfold vv; rw [decide_eq_false (show ¬ 1 ≤ l[i].f1 by omega)]; simp
        rw [this]
        rfl
      · rw [if_neg h3]
        by_cases h4 : l[i].f1 > 3
        · rw [if_pos h4]
          have : vv l[i] = false := by unfold vv; rw [decide_eq_false (show ¬ l[i].f1 ≤ 3 by omega)]; simp
          rw [this]
          rfl
        · have : vv l[i] = true := by unfold vv; rw [ht, decide_eq_true (show 1 ≤ l[i].f1 by omega), decide_eq_true (show l[i].f1 ≤ 3 by omega)]; rfl
          rw [if_neg h4, w1 (by omega), w0 (by omega) (by omega), ih (i + 1) k _ (by omega) (by omega) (by omega) (by omega), this, Bool.true_and, Int.add_assoc]
    · rw [if_neg ht]
      have : vv l[i] = false := by unfold vv; rw [Bool.eq_false_iff.mpr ht]; rfl
      rw [this]
      rfl
theorem pvi_f (l : List S44) (k : Nat) (hk : 13 ≤ k) : impl_PartValid.f k l = some (PV l) := by
  unfold impl_PartValid.f PV
  by_cases hl : l.length ≤ 12
  · rw [if_neg (by omega), decide_eq_true hl, Bool.true_and]
    simpa using pvi_l0 l hl l.length 0 k 0 (by omega) (by omega) (by omega) (by omega)
  · rw [if_pos (by omega), decide_eq_false hl]
    rfl

theorem expand_cons (v : S44) (l : List S44) : expand (v :: l) = List.replicate v.f1.toNat v.f0 ++ expand l := by simp [expand]
theorem expand_sum (l : List S44) (h : l.all vv = true) : ((expand l).length : Int) = sumB l := by
  induction l with
  | nil => rfl
  | cons v l ih =>
    simp only [List.all_cons, Bool.and_eq_true] at h
    have h1 := vv_bd h.1
    have h2 := ih h.2
    rw [expand_cons, sumB_cons, List.length_append, List.length_replicate]
    omega
def PB (l : List S44) : Int := if PV l = true then sumB l else -1
def TG (l0 l1 : List S44) : Bool := PV l0 && (PV l1 && decide (sumB l0 = sumB l1))
theorem TG_0 {l0 l1 : List S44} (h : TG l0 l1 = true) : PV l0 = true := by
  unfold TG at h
  simp only [Bool.and_eq_true] at h
  exact h.1
theorem TG_1 {l0 l1 : List S44} (h : TG l0 l1 = true) : PV l1 = true := by
  unfold TG at h
  simp only [Bool.and_eq_true] at h
  exact h.2.1
theorem TG_2 {l0 l1 : List S44} (h : TG l0 l1 = true) : sumB l0 = sumB l1 := by
  unfold TG at h
  simp only [Bool.and_eq_true, decide_eq_true_eq] at h
  exact h.2.2
def PS (l0 l1 : List S44) : List S85 := pairs (expand l0) (expand l1)
theorem so_f (l0 l1 : List S44) (k : Nat) (hk : 13 ≤ k) : impl_soundsOf.f k l0 l1 = some (if TG l0 l1 = true then (PS l0 l1, true) else ([], false)) := by
  unfold impl_soundsOf.f
  rw [pvi_f l0 k hk, pvi_f l1 k hk]
  simp only [Option.bind_some]
  congr 1
  by_cases h0 : PV l0 = true
  · by_cases h1 : PV l1 = true
    · have e0 := expand_sum l0 (PV_all h0)
      have e1 := expand_sum l1 (PV_all h1)
      by_cases h2 : sumB l0 = sumB l1
      · rw [if_pos ⟨h0, h1, by omega⟩, if_pos (by unfold TG; rw [h0, h1, decide_eq_true h2]; rfl)]
        rfl
      · rw [if_neg (fun z => h2 (by omega)), if_neg (by unfold TG; rw [h0, h1, decide_eq_false h2]; simp)]
    · rw [if_neg (fun z => h1 z.2.1), if_neg (fun z => h1 (TG_1 z))]
  · rw [if_neg (fun z => h0 z.1), if_neg (fun z => h0 (TG_0 z))]
theorem PS_len {l0 l1 : List S44} (h : TG l0 l1 = true) : ((PS l0 l1).length : Int) = sumB l0 := by
  have e0 := expand_sum l0 (PV_all (TG_0 h))
  have e1 := expand_sum l1 (PV_all (TG_1 h))
  have e2 := TG_2 h
  unfold PS pairs
  rw [List.length_zipWith]
  omega
theorem PS_bd {l0 l1 : List S44} (h : TG l0 l1 = true) : (PS l0 l1).length ≤ 24 := by
  have e0 := PS_len h
  have := PV_sum (TG_0 h)
  omega
theorem rdp_at (xs : List S85) (i : Nat) (h : i < xs.length) : rd_T85 xs (i : Int) = xs[i] := by
  simp [rd_T85, List.getD_eq_getElem?_getD, h]
def CC (a : Int) (b : Bool) (c : Int) (d : Bool) : Bool := (impl_soundPair_concord.f 14 a b c d).getD false
theorem cc_fin : ∀ b d : Bool, ∀ n : Nat, n < 21 → ∀ m : Nat, m < 21 → (if (tv (n : Int) b && tv (m : Int) d) = true then decide (impl_soundPair_concord.f 14 (n : Int) b (m : Int) d = some (CC (n : Int) b (m : Int) d)) else true) = true := by decide +kernel
theorem cci_f (a : Int) (b : Bool) (c : Int) (d : Bool) (h1 : tv a b = true) (h2 : tv c d = true) (k : Nat) (hk : 14 ≤ k) : impl_soundPair_concord.f k a b c d = some (CC a b c d) := by
  refine at_rounds (impl_soundPair_concord.mono _ _ _ _) hk ?_
  have g1 := h1
  have g2 := h2
  unfold tv at g1 g2
  simp only [Bool.and_eq_true, decide_eq_true_eq] at g1 g2
  obtain ⟨n, rfl⟩ := Int.eq_ofNat_of_zero_le g1.1
  obtain ⟨m, rfl⟩ := Int.eq_ofNat_of_zero_le g2.1
  have := cc_fin b d n (by omega) m (by omega)
  rw [h1, h2, if_pos (by rfl)] at this
  exact of_decide_eq_true this
/-- Both tones are valid. -/
def pv (p : S85) : Prop := tv p.f0.f0 p.f0.f1 = true ∧ tv p.f1.f0 p.f1.f1 = true
def cp (p : S85) : Bool := CC p.f0.f0 p.f0.f1 p.f1.f0 p.f1.f1
def pvs (ps : List S85) : Prop := ∀ p ∈ ps, pv p
theorem exp_tv {a : List S44} (h : PV a = true) : ∀ t ∈ expand a, tv t.f0 t.f1 = true := by
  intro t ht
  obtain ⟨v, hv, hr⟩ := List.mem_flatMap.1 (show t ∈ a.flatMap fun v => List.replicate v.f1.toNat v.f0 by simpa [expand] using ht)
  have e := List.eq_of_mem_replicate hr
  have hvv := List.all_eq_true.1 (PV_all h) v hv
  unfold vv at hvv
  rw [Bool.and_eq_true] at hvv
  rw [e]
  exact hvv.1
theorem pairs_mem {xs : List S30} : ∀ {ys : List S30} {p : S85}, p ∈ pairs xs ys → p.f0 ∈ xs ∧ p.f1 ∈ ys := by
  induction xs with
  | nil => intro ys p hp; simp [pairs] at hp
  | cons x xs ih =>
    intro ys p hp
    cases ys with
    | nil => simp [pairs] at hp
    | cons y ys =>
      have hp' : p = ⟨x, y⟩ ∨ p ∈ pairs xs ys := by simpa [pairs] using hp
      rcases hp' with rfl | hp'
      · exact ⟨List.mem_cons_self .., List.mem_cons_self ..⟩
      · have := ih hp'
        exact ⟨List.mem_cons_of_mem _ this.1, List.mem_cons_of_mem _ this.2⟩
theorem PS_pv {l0 l1 : List S44} (h : TG l0 l1 = true) : pvs (PS l0 l1) := fun p hp => by
  have := pairs_mem (show p ∈ pairs (expand l0) (expand l1) from hp)
  exact ⟨exp_tv (TG_0 h) _ this.1, exp_tv (TG_1 h) _ this.2⟩
def cAt (ps : List S85) (i : Nat) : Bool := (ps[i]?.map cp).getD false
theorem cAt_eq {ps : List S85} {i : Nat} (h : i < ps.length) : cAt ps i = cp ps[i] := by
  unfold cAt
  rw [List.getElem?_eq_getElem h]
  rfl
theorem ic_at {ps : List S85} (h : pvs ps) (i : Nat) (hi : i < ps.length) (k : Nat) (hk : 14 ≤ k) : impl_soundPair_concord.f k ps[i].f0.f0 ps[i].f0.f1 ps[i].f1.f0 ps[i].f1.f1 = some (cAt ps i) := by
  have := h ps[i] (List.getElem_mem hi)
  rw [cAt_eq hi]
  exact cci_f _ _ _ _ this.1 this.2 k hk
/-- Two concords, to which both parts move by the same steps. -/
def par (p q : S85) : Bool := decide (¬ wrap64 (q.f0.f0 - p.f0.f0) = 0) && (decide (wrap64 (q.f0.f0 - p.f0.f0) = wrap64 (q.f1.f0 - p.f1.f0)) && (cp p && cp q))
def padj : List S85 → Nat
  | [] => 0
  | [_] => 0
  | p :: q :: r => (if par p q = true then 1 else 0) + padj (q :: r)
theorem padj_drop (ps : List S85) (i : Nat) (h : i + 1 < ps.length) : padj (ps.drop i) = (if par ps[i] ps[i + 1] = true then 1 else 0) + padj (ps.drop (i + 1)) := by
  rw [List.drop_eq_getElem_cons (show i < ps.length by omega), List.drop_eq_getElem_cons h]
  rfl
theorem padj_end (ps : List S85) (i : Nat) (h : ¬ i + 1 < ps.length) : padj (ps.drop i) = 0 := by
  by_cases hi : i < ps.length
  · rw [List.drop_eq_getElem_cons hi, List.drop_eq_nil_of_le (by omega)]
    rfl
  · rw [List.drop_eq_nil_of_le (by omega)]
    rfl
theorem par_i (ps : List S85) (hv : pvs ps) (hn : ps.length ≤ 24) : ∀ (d i k : Nat) (a : Int), i + 1 + d = ps.length → d + 20 ≤ k → 0 ≤ a → a ≤ i → impl_DiscantParallels.l0 k ps a ((i + 1 : Nat) : Int) = some (a + (padj (ps.drop i) : Nat)) := by
  intro d
  induction d with
  | zero =>
    intro i k a hi hk h0 h1
    obtain ⟨k, rfl⟩ : ∃ m, k = m + 1 := ⟨k - 1, by omega⟩
    simp only [impl_DiscantParallels.l0]
    rw [if_neg (by omega), padj_end ps i (by omega)]
    simp
  | succ d ih =>
    intro i k a hi hk h0 h1
    obtain ⟨k, rfl⟩ : ∃ m, k = m + 1 := ⟨k - 1, by omega⟩
    have hx : i + 1 < ps.length := by omega
    have e1 : wrap64 (((i + 1 : Nat) : Int) - 1) = (i : Int) := by rw [w0 (by omega) (by omega)]; omega
    have hyes := ih (i + 1) k (a + 1) (by omega) (by omega) (by omega) (by omega)
    have hno := ih (i + 1) k a (by omega) (by omega) (by omega) (by omega)
    simp only [impl_DiscantParallels.l0]
    rw [if_pos (by omega), e1, if_pos (by omega), if_pos (by omega), if_pos (by omega), rdp_at ps i (by omega), rdp_at ps (i + 1) hx, padj_drop ps i hx, w1 (by omega)]
    simp only [impl_soundPair_changesTo.f, Option.bind_some]
    rw [ic_at hv i (by omega) k (by omega), ic_at hv (i + 1) hx k (by omega), cAt_eq (show i < ps.length by omega), cAt_eq hx, w0 (i := a + 1) (by omega) (by omega), hyes, hno]
    simp only [Option.bind_some]
    unfold par
    by_cases c1 : wrap64 (ps[i + 1].f0.f0 - ps[i].f0.f0) = 0
    · rw [if_pos c1]
      simp [c1]
    · rw [if_neg c1]
      by_cases c2 : wrap64 (ps[i + 1].f0.f0 - ps[i].f0.f0) = wrap64 (ps[i + 1].f1.f0 - ps[i].f1.f0)
      · rw [if_pos c2, decide_eq_true c1, decide_eq_true c2]
        cases cp ps[i] <;> cases cp ps[i + 1] <;> simp <;> omega
      · rw [if_neg c2, decide_eq_false c2]
        simp
def PN (l0 l1 : List S44) : Int := if TG l0 l1 = true then (padj (PS l0 l1) : Nat) else -1
theorem pni_f (l0 l1 : List S44) (k : Nat) (hk : 60 ≤ k) : impl_DiscantParallels.f k l0 l1 = some (PN l0 l1) := by
  unfold impl_DiscantParallels.f PN
  rw [so_f l0 l1 k (by omega)]
  simp only [Option.bind_some]
  by_cases h : TG l0 l1 = true
  · rw [if_pos h, if_pos h, if_pos rfl]
    by_cases hz : (PS l0 l1).length = 0
    · have e : PS l0 l1 = [] := List.length_eq_zero_iff.mp hz
      obtain ⟨k, rfl⟩ : ∃ m, k = m + 1 := ⟨k - 1, by omega⟩
      simp only [impl_DiscantParallels.l0, e]
      rfl
    · have hn := PS_bd h
      simpa using par_i (PS l0 l1) (PS_pv h) hn ((PS l0 l1).length - 1) 0 k 0 (by omega) (by omega) (by omega) (by omega)
  · rw [if_neg h, if_neg h]
    rfl
def opp (p q : S85) : Bool := decide (wrap64 (wrap64 (q.f0.f0 - p.f0.f0) * wrap64 (q.f1.f0 - p.f1.f0)) < 0)
def adj : List S85 → Nat
  | [] => 0
  | [_] => 0
  | p :: q :: r => (if opp p q = true then 1 else 0) + adj (q :: r)
theorem adj_drop (ps : List S85) (i : Nat) (h : i + 1 < ps.length) : adj (ps.drop i) = (if opp ps[i] ps[i + 1] = true then 1 else 0) + adj (ps.drop (i + 1)) := by
  rw [List.drop_eq_getElem_cons (show i < ps.length by omega), List.drop_eq_getElem_cons h]
  rfl
theorem adj_end (ps : List S85) (i : Nat) (h : ¬ i + 1 < ps.length) : adj (ps.drop i) = 0 := by
  by_cases hi : i < ps.length
  · rw [List.drop_eq_getElem_cons hi, List.drop_eq_nil_of_le (by omega)]
    rfl
  · rw [List.drop_eq_nil_of_le (by omega)]
    rfl
theorem contr_i (ps : List S85) (hn : ps.length ≤ 24) : ∀ (d i k : Nat) (a : Int), i + 1 + d = ps.length → d < k → 0 ≤ a → a ≤ i → impl_DiscantContrary.l0 k ps a ((i + 1 : Nat) : Int) = some (a + (adj (ps.drop i) : Nat)) := by
  intro d
  induction d with
  | zero =>
    intro i k a hi hk h0 h1
    obtain ⟨k, rfl⟩ : ∃ m, k = m + 1 := ⟨k - 1, by omega⟩
    simp only [impl_DiscantContrary.l0]
    rw [if_neg (by omega), adj_end ps i (by omega)]
    simp
  | succ d ih =>
    intro i k a hi hk h0 h1
    obtain ⟨k, rfl⟩ : ∃ m, k = m + 1 := ⟨k - 1, by omega⟩
    have hx : i + 1 < ps.length := by omega
    have e1 : wrap64 (((i + 1 : Nat) : Int) - 1) = (i : Int) := by rw [w0 (by omega) (by omega)]; omega
    simp only [impl_DiscantContrary.l0]
    rw [if_pos (by omega), e1, if_pos (by omega), if_pos (by omega), if_pos (by omega), rdp_at ps i (by omega), rdp_at ps (i + 1) hx, adj_drop ps i hx, w1 (by omega)]
    simp only [impl_soundPair_changesTo.f, Option.bind_some]
    by_cases c : wrap64 (wrap64 (ps[i + 1].f0.f0 - ps[i].f0.f0) * wrap64 (ps[i + 1].f1.f0 - ps[i].f1.f0)) < 0
    · have e : opp ps[i] ps[i + 1] = true := decide_eq_true c
      rw [if_pos c, w0 (by omega) (by omega), ih (i + 1) k _ (by omega) (by omega) (by omega) (by omega), if_pos e]
      congr 1
      omega
    · have e : ¬ opp ps[i] ps[i + 1] = true := by unfold opp; rw [decide_eq_false c]; simp
      rw [if_neg c, ih (i + 1) k _ (by omega) (by omega) (by omega) (by omega), if_neg e]
      simp
def CN (l0 l1 : List S44) : Int := if TG l0 l1 = true then (adj (PS l0 l1) : Nat) else -1
theorem cni_f (l0 l1 : List S44) (k : Nat) (hk : 40 ≤ k) : impl_DiscantContrary.f k l0 l1 = some (CN l0 l1) := by
  unfold impl_DiscantContrary.f CN
  rw [so_f l0 l1 k (by omega)]
  simp only [Option.bind_some]
  by_cases h : TG l0 l1 = true
  · rw [if_pos h, if_pos h, if_pos rfl]
    by_cases hz : (PS l0 l1).length = 0
    · have e : PS l0 l1 = [] := List.length_eq_zero_iff.mp hz
      obtain ⟨k, rfl⟩ : ∃ m, k = m + 1 := ⟨k - 1, by omega⟩
      simp only [impl_DiscantContrary.l0, e]
      rfl
    · simpa using contr_i (PS l0 l1) (PS_bd h) ((PS l0 l1).length - 1) 0 k 0 (by omega) (by have := PS_bd h; omega) (by omega) (by omega)
  · rw [if_neg h, if_neg h]
    rfl
def swp (p : S85) : S85 := ⟨p.f1, p.f0⟩
theorem pairs_swap (xs : List S30) : ∀ ys : List S30, pairs ys xs = (pairs xs ys).map swp := by
  induction xs with
  | nil => intro ys; cases ys <;> rfl
  | cons x xs ih =>
    intro ys
    cases ys with
    | nil => rfl
    | cons y ys =>
      have := ih ys
      unfold pairs at this ⊢
      rw [List.zipWith_cons_cons, List.zipWith_cons_cons, this]
      rfl
theorem TG_swap {a b : List S44} (h : TG a b = true) : TG b a = true := by
  unfold TG
  rw [TG_0 h, TG_1 h, TG_2 h]
  simp
theorem TG_refl {a : List S44} (h : PV a = true) : TG a a = true := by
  unfold TG
  rw [h]
  simp
theorem cc_sym_fin : ∀ b d : Bool, ∀ n : Nat, n < 21 → ∀ m : Nat, m < 21 → (if (tv (n : Int) b && tv (m : Int) d) = true then decide (CC (m : Int) d (n : Int) b = CC (n : Int) b (m : Int) d) else true) = true := by decide +kernel
theorem cc_self_fin : ∀ b : Bool, ∀ n : Nat, n < 21 → (if tv (n : Int) b = true then CC (n : Int) b (n : Int) b else true) = true := by decide +kernel
theorem cc_up_fin : ∀ b d : Bool, ∀ n : Nat, n < 21 → ∀ m : Nat, m < 14 → (if (tv (n : Int) b && tv (m : Int) d) = true then decide (CC (n : Int) b ((m + 7 : Nat) : Int) d = CC (n : Int) b (m : Int) d) else true) = true := by decide +kernel
theorem tv_nat {a : Int} {b : Bool} (h : tv a b = true) : ∃ n : Nat, a = (n : Int) ∧ n < 21 := by
  unfold tv at h
  simp only [Bool.and_eq_true, decide_eq_true_eq] at h
  obtain ⟨n, rfl⟩ := Int.eq_ofNat_of_zero_le h.1
  exact ⟨n, rfl, by omega⟩
theorem cc_sym {a c : Int} {b d : Bool} (h1 : tv a b = true) (h2 : tv c d = true) : CC c d a b = CC a b c d := by
  obtain ⟨n, rfl, hn⟩ := tv_nat h1
  obtain ⟨m, rfl, hm⟩ := tv_nat h2
  have := cc_sym_fin b d n hn m hm
  rw [h1, h2, if_pos (by rfl)] at this
  exact of_decide_eq_true this
theorem cc_self {a : Int} {b : Bool} (h1 : tv a b = true) : CC a b a b = true := by
  obtain ⟨n, rfl, hn⟩ := tv_nat h1
  have := cc_self_fin b n hn
  rw [h1, if_pos rfl] at this
  exact this
theorem cc_up {a c : Int} {b d : Bool} (h1 : tv a b = true) (h2 : tv c d = true) (h3 : c + 7 ≤ 20) : CC a b (c + 7) d = CC a b c d := by
  obtain ⟨n, rfl, hn⟩ := tv_nat h1
  obtain ⟨m, rfl, hm⟩ := tv_nat h2
  have := cc_up_fin b d n hn m (by omega)
  rw [h1, h2, if_pos (by rfl)] at this
  exact of_decide_eq_true this
theorem cp_swap {p : S85} (h : pv p) : cp (swp p) = cp p := cc_sym h.1 h.2
theorem pv_swap {p : S85} (h : pv p) : pv (swp p) := ⟨h.2, h.1⟩
theorem cAt_swap {a b : List S44} (h : TG a b = true) (i : Nat) (hi : i < (PS a b).length) : cAt (PS b a) i = cAt (PS a b) i := by
  have e : PS b a = (PS a b).map swp := by unfold PS; rw [pairs_swap]
  have hi2 : i < (PS b a).length := by rw [e]; simpa using hi
  rw [cAt_eq hi, cAt_eq hi2]
  have e2 : (PS b a)[i] = swp (PS a b)[i] := by simp [e]
  rw [e2, cp_swap (PS_pv h _ (List.getElem_mem hi))]
theorem PS_len_swap (a b : List S44) : (PS b a).length = (PS a b).length := by
  unfold PS
  rw [pairs_swap]
  simp
theorem cAt_self {a : List S44} (h : PV a = true) (i : Nat) (hi : i < (PS a a).length) : cAt (PS a a) i = true := by
  have hp := PS_pv (TG_refl h) _ (List.getElem_mem hi)
  rw [cAt_eq hi]
  have e : (PS a a)[i].f1 = (PS a a)[i].f0 := by simp [PS, pairs]
  unfold cp
  rw [e]
  exact cc_self hp.1
/-- How often a tone's step differs from the one ahead of it. -/
def chg : List S30 → Nat
  | [] => 0
  | [_] => 0
  | x :: y :: r => (if x.f0 = y.f0 then 0 else 1) + chg (y :: r)
theorem padj_le : ∀ ps : List S85, padj ps ≤ ps.length - 1
  | [] => by simp [padj]
  | [_] => by simp [padj]
  | p :: q :: r => by
    have := padj_le (q :: r)
    simp only [padj, List.length_cons] at this ⊢
    split <;> omega
theorem par_swap {p q : S85} (hp : pv p) (hq : pv q) : par (swp p) (swp q) = par p q := by
  unfold par
  rw [cp_swap hp, cp_swap hq]
  show (decide (¬ wrap64 (q.f1.f0 - p.f1.f0) = 0) && (decide (wrap64 (q.f1.f0 - p.f1.f0) = wrap64 (q.f0.f0 - p.f0.f0)) && (cp p && cp q))) = _
  generalize wrap64 (q.f1.f0 - p.f1.f0) = x
  generalize wrap64 (q.f0.f0 - p.f0.f0) = y
  by_cases h : x = y
  · rw [h]
  · rw [decide_eq_false h, decide_eq_false (show ¬ y = x from fun e => h e.symm)]
    simp
theorem padj_swap : ∀ ps : List S85, pvs ps → padj (ps.map swp) = padj ps
  | [], _ => rfl
  | [_], _ => rfl
  | p :: q :: r, h => by
    have ih := padj_swap (q :: r) (fun x hx => h x (List.mem_cons_of_mem _ hx))
    simp only [List.map_cons, padj] at ih ⊢
    rw [ih, par_swap (h p (List.mem_cons_self ..)) (h q (List.mem_cons_of_mem _ (List.mem_cons_self ..)))]
theorem PN_swap {a b : List S44} (h : TG a b = true) : PN b a = PN a b := by
  unfold PN
  rw [if_pos h, if_pos (TG_swap h)]
  have e : PS b a = (PS a b).map swp := by unfold PS; rw [pairs_swap]
  rw [e, padj_swap _ (PS_pv h)]
theorem tv_rng {a : Int} {b : Bool} (h : tv a b = true) : 0 ≤ a ∧ a ≤ 20 := by
  obtain ⟨n, rfl, hn⟩ := tv_nat h
  omega
theorem padj_self : ∀ xs : List S30, (∀ t ∈ xs, tv t.f0 t.f1 = true) → padj (pairs xs xs) = chg xs
  | [], _ => rfl
  | [_], _ => rfl
  | x :: y :: r, h => by
    have ih := padj_self (y :: r) (fun t ht => h t (List.mem_cons_of_mem _ ht))
    have hx := h x (List.mem_cons_self ..)
    have hy := h y (List.mem_cons_of_mem _ (List.mem_cons_self ..))
    have e : pairs (x :: y :: r) (x :: y :: r) = ⟨x, x⟩ :: ⟨y, y⟩ :: pairs r r := rfl
    have e2 : pairs (y :: r) (y :: r) = ⟨y, y⟩ :: pairs r r := rfl
    rw [e2] at ih
    rw [e, padj, ih, chg]
    have bx := tv_rng hx
    have by_ := tv_rng hy
    have hc : par (⟨x, x⟩ : S85) ⟨y, y⟩ = decide (¬ x.f0 = y.f0) := by
      unfold par cp
      show (decide (¬ wrap64 (y.f0 - x.f0) = 0) && (decide (wrap64 (y.f0 - x.f0) = wrap64 (y.f0 - x.f0)) && (CC x.f0 x.f1 x.f0 x.f1 && CC y.f0 y.f1 y.f0 y.f1))) = _
      rw [cc_self hx, cc_self hy, w0 (i := y.f0 - x.f0) (by omega) (by omega)]
      by_cases c : x.f0 = y.f0
      · have e0 : y.f0 - x.f0 = 0 := by omega
        simp [e0, c]
      · have e0 : ¬ y.f0 - x.f0 = 0 := by omega
        simp [e0, c]
    rw [hc]
    by_cases c : x.f0 = y.f0
    · rw [if_pos c, if_neg (by simp [c])]
    · rw [if_neg c, if_pos (decide_eq_true c)]
theorem sq_nn {z : Int} (h1 : -20 ≤ z) (h2 : z ≤ 20) : 0 ≤ z * z ∧ z * z ≤ 400 := by
  by_cases hs : 0 ≤ z
  · exact ⟨Int.mul_nonneg hs hs, Int.mul_le_mul h2 h2 hs (by omega)⟩
  · have e : z * z = (-z) * (-z) := by rw [Int.neg_mul_neg]
    rw [e]
    exact ⟨Int.mul_nonneg (show 0 ≤ -z by omega) (show 0 ≤ -z by omega), Int.mul_le_mul (show -z ≤ 20 by omega) (show -z ≤ 20 by omega) (show 0 ≤ -z by omega) (show (0 : Int) ≤ 20 by omega)⟩
/-- Parallel or contrary motion: the first part changes; never both. -/
theorem par_opp {p q : S85} (hp : pv p) (hq : pv q) : (if par p q = true then 1 else 0) + (if opp p q = true then 1 else 0) ≤ (if p.f0.f0 = q.f0.f0 then 0 else 1 : Nat) := by
  have b1 := tv_rng hp.1
  have b2 := tv_rng hp.2
  have b3 := tv_rng hq.1
  have b4 := tv_rng hq.2
  unfold par opp
  rw [w0 (i := q.f0.f0 - p.f0.f0) (by omega) (by omega), w0 (i := q.f1.f0 - p.f1.f0) (by omega) (by omega)]
  by_cases c : p.f0.f0 = q.f0.f0
  · have e : q.f0.f0 - p.f0.f0 = 0 := by omega
    rw [e, Int.zero_mul, if_pos c]
    simp [wrap64]
  · rw [if_neg c]
    by_cases d : q.f0.f0 - p.f0.f0 = q.f1.f0 - p.f1.f0
    · rw [← d]
      have := sq_nn (z := q.f0.f0 - p.f0.f0) (by omega) (by omega)
      rw [w0 (by omega) (by omega), if_neg (show ¬ decide ((q.f0.f0 - p.f0.f0) * (q.f0.f0 - p.f0.f0) < 0) = true by rw [decide_eq_false (by omega)]; decide)]
      split <;> omega
    · rw [decide_eq_false d]
      simp only [Bool.false_and, Bool.and_false, Bool.false_eq_true, if_false, Nat.zero_add]
      split <;> omega
theorem par_adj : ∀ xs ys : List S30, (∀ t ∈ xs, tv t.f0 t.f1 = true) → (∀ t ∈ ys, tv t.f0 t.f1 = true) → padj (pairs xs ys) + adj (pairs xs ys) ≤ chg xs
  | [], _, _, _ => by simp [pairs, padj, adj]
  | [_], [], _, _ => by simp [pairs, padj, adj]
  | [x], y :: r, _, _ => by
    have e : pairs [x] (y :: r) = [⟨x, y⟩] := by simp [pairs]
    rw [e]
    simp [padj, adj, chg]
  | _ :: _ :: _, [], _, _ => by simp [pairs, padj, adj]
  | x :: x' :: r, [y], _, _ => by
    have e : pairs (x :: x' :: r) [y] = [⟨x, y⟩] := by simp [pairs]
    rw [e]
    simp [padj, adj]
  | x :: x' :: r, y :: y' :: s, hx, hy => by
    have ih := par_adj (x' :: r) (y' :: s) (fun t ht => hx t (List.mem_cons_of_mem _ ht)) (fun t ht => hy t (List.mem_cons_of_mem _ ht))
    have e : pairs (x :: x' :: r) (y :: y' :: s) = ⟨x, y⟩ :: ⟨x', y'⟩ :: pairs r s := rfl
    have e2 : pairs (x' :: r) (y' :: s) = ⟨x', y'⟩ :: pairs r s := rfl
    have h1 := par_opp (p := ⟨x, y⟩) (q := ⟨x', y'⟩) ⟨hx x (List.mem_cons_self ..), hy y (List.mem_cons_self ..)⟩ ⟨hx x' (List.mem_cons_of_mem _ (List.mem_cons_self ..)), hy y' (List.mem_cons_of_mem _ (List.mem_cons_self ..))⟩
    rw [e2] at ih
    rw [e, padj, adj, chg]
    simp only at h1
    omega
def tvv (t : S30) : Bool := tv t.f0 t.f1
theorem rdt_at (xs : List S30) (i : Nat) (h : i < xs.length) : rd_T30 xs (i : Int) = xs[i] := by
  simp [rd_T30, List.getD_eq_getElem?_getD, h]
def MV (l : List S30) : Bool := decide (l.length ≤ 24) && l.all tvv
theorem mvi_l0 (l : List S30) (hb : l.length < 4611686018427387904) : ∀ (d i k : Nat), i + d = l.length → d < k → impl_MelodyValid.l0 k l (l.length : Int) (i : Int) = some ((l.drop i).all tvv) := by
  intro d
  induction d with
  | zero =>
    intro i k hi hk
    obtain ⟨k, rfl⟩ : ∃ m, k = m + 1 := ⟨k - 1, by omega⟩
    simp only [impl_MelodyValid.l0]
    rw [if_neg (by omega), List.drop_eq_nil_of_le (by omega)]
    rfl
  | succ d ih =>
    intro i k hi hk
    obtain ⟨k, rfl⟩ : ∃ m, k = m + 1 := ⟨k - 1, by omega⟩
    have hx : i < l.length := by omega
    simp only [impl_MelodyValid.l0]
    rw [if_pos (by omega), if_pos (by omega), if_pos (by omega), rdt_at l i hx, tv_impl, List.drop_eq_getElem_cons hx, List.all_cons]
    simp only [Option.bind_some]
    by_cases ht : tv l[i].f0 l[i].f1 = true
    · rw [if_pos ht, w1 (by omega), ih (i + 1) k (by omega) (by omega), show tvv l[i] = true from ht, Bool.true_and]
    · rw [if_neg ht, show tvv l[i] = false from Bool.eq_false_iff.mpr ht, Bool.false_and]
theorem mvi_f (l : List S30) (k : Nat) (hk : 25 ≤ k) : impl_MelodyValid.f k l = some (MV l) := by
  unfold impl_MelodyValid.f MV
  by_cases h : l.length ≤ 24
  · rw [if_neg (by omega), decide_eq_true h, Bool.true_and]
    simpa using mvi_l0 l (by omega) l.length 0 k (by omega) (by omega)
  · rw [if_pos (by omega), decide_eq_false h, Bool.false_and]

theorem mvs_l0 (l : List S30) (hb : l.length < 4611686018427387904) : ∀ (d i k : Nat), i + d = l.length → d < k → (l.take i).all tvv = true → spec_MelodyValid.l0 k l (i : Int) = some (MV l) := by
  intro d
  induction d with
  | zero =>
    intro i k hi hk hv
    obtain ⟨k, rfl⟩ : ∃ m, k = m + 1 := ⟨k - 1, by omega⟩
    rw [List.take_of_length_le (by omega)] at hv
    simp only [spec_MelodyValid.l0]
    rw [if_neg (by omega)]
    unfold MV
    rw [hv, Bool.and_true]
    congr 1
    rw [decide_eq_decide]
    omega
  | succ d ih =>
    intro i k hi hk hv
    obtain ⟨k, rfl⟩ : ∃ m, k = m + 1 := ⟨k - 1, by omega⟩
    have hx : i < l.length := by omega
    simp only [spec_MelodyValid.l0]
    rw [if_pos (by omega), if_pos (by omega), rdt_at l i hx, tv_spec]
    simp only [Option.bind_some]
    by_cases hvi : tv l[i].f0 l[i].f1 = true
    · rw [if_pos hvi, w1 (by omega)]
      refine ih (i + 1) k (by omega) (by omega) ?_
      rw [List.take_succ_eq_append_getElem hx, List.all_append, hv]
      simp [tvv, hvi]
    · rw [if_neg hvi]
      have : l.all tvv = false := by
        rw [Bool.eq_false_iff]
        intro h
        exact hvi (List.all_eq_true.1 h _ (List.getElem_mem hx))
      unfold MV
      rw [this, Bool.and_false]
theorem mvs_f (l : List S30) (hb : l.length ≤ 1048576) (k : Nat) (hk : l.length < k) : spec_MelodyValid.f k l = some (MV l) := by
  unfold spec_MelodyValid.f
  simpa using mvs_l0 l (by omega) l.length 0 k (by omega) (by omega) (by simp)
def mkv (t : S30) (b : Int) : S44 := ⟨⟨t.f0, t.f1⟩, b⟩
theorem tv_ok (a : Int) (b : Bool) : tv a b = toneOk a b := by
  unfold tv toneOk
  by_cases h : 0 ≤ a
  · rw [Int.tmod_eq_emod_of_nonneg h]
  · simp [h]
theorem MV_ok {l : List S30} (h : MV l = true) : ∀ t ∈ l, toneOk t.f0 t.f1 = true := by
  unfold MV at h
  simp only [Bool.and_eq_true, decide_eq_true_eq] at h
  intro t ht
  rw [← tv_ok]
  exact List.all_eq_true.1 h.2 t ht
def SM (l : List S30) (a : Int) : List S30 × Bool := if MV l = true then mvMove a l else ([], false)
theorem MV_len {l : List S30} (h : MV l = true) : l.length ≤ 24 := by
  unfold MV at h
  simp only [Bool.and_eq_true, decide_eq_true_eq] at h
  exact h.1
theorem mmi_f (l : List S30) (a : Int) (k : Nat) (hk : 25 ≤ k) : impl_MelodyMove.f k l a = some (SM l a) := by
  unfold impl_MelodyMove.f SM
  rw [mvi_f l k hk, Option.bind_some]
theorem mvd_ok {t x : S30} {a s : Int} (h : mvd t a s = some x) : toneOk x.f0 x.f1 = true ∧ x.f0 = t.f0 + a ∧ htI x.f0 x.f1 - htI t.f0 t.f1 = s := by
  unfold mvd mvOk at h
  split at h
  · rename_i h1
    rw [← Option.some.inj h]
    simp only [Bool.and_eq_true, decide_eq_true_eq] at h1
    exact ⟨h1.1, rfl, h1.2⟩
  · split at h
    · rename_i h1
      rw [← Option.some.inj h]
      simp only [Bool.and_eq_true, decide_eq_true_eq] at h1
      exact ⟨h1.1, rfl, h1.2⟩
    · exact absurd h (by simp)
theorem mvAll_at (a s : Int) : ∀ (l xs : List S30), mvAll a s l = some xs → ∀ (i : Nat) (h : i < l.length) (h' : i < xs.length), mvd l[i] a s = some xs[i]
  | [], xs, _, i, h, _ => by simp at h
  | t :: ts, xs, hx, i, h, h' => by
    simp only [mvAll] at hx
    obtain ⟨y, h1, hx⟩ := Option.bind_eq_some_iff.mp hx
    obtain ⟨ys, h2, hx⟩ := Option.bind_eq_some_iff.mp hx
    obtain rfl := Option.some.inj hx
    cases i with
    | zero => exact h1
    | succ i => exact mvAll_at a s ts ys h2 i (by simpa using h) (by simpa using h')
/-- A moved melody: as long as the melody, each tone moved by the same steps and semitones. -/
theorem mvMove_ok {a : Int} {l xs : List S30} (h : mvMove a l = (xs, true)) : xs.length = l.length ∧ ∃ s, ∀ (i : Nat) (h : i < l.length) (h' : i < xs.length), toneOk xs[i].f0 xs[i].f1 = true ∧ xs[i].f0 = l[i].f0 + a ∧ htI xs[i].f0 xs[i].f1 - htI l[i].f0 l[i].f1 = s := by
  have key : ∀ s, mvAll a s l = some xs → xs.length = l.length ∧ ∃ s, ∀ (i : Nat) (h : i < l.length) (h' : i < xs.length), toneOk xs[i].f0 xs[i].f1 = true ∧ xs[i].f0 = l[i].f0 + a ∧ htI xs[i].f0 xs[i].f1 - htI l[i].f0 l[i].f1 = s :=
    fun s hs => ⟨mvAll_len a s l xs hs, s, fun i h1 h2 => mvd_ok (mvAll_at a s l xs hs i h1 h2)⟩
  cases l with
  | nil =>
    have := (Prod.mk.inj (show (([] : List S30), true) = (xs, true) from h)).1
    subst this
    exact ⟨rfl, 0, fun i h1 _ => by simp at h1⟩
  | cons t ts =>
    unfold mvMove at h
    dsimp only at h
    split at h
    · split at h
      · rename_i ys hy
        have := (Prod.mk.inj h).1
        subst this
        unfold mvTry at hy
        split at hy
        · exact key _ hy
        · exact absurd hy (by simp)
      · split at h
        · rename_i ys hy
          have := (Prod.mk.inj h).1
          subst this
          unfold mvTry at hy
          split at hy
          · exact key _ hy
          · exact absurd hy (by simp)
        · exact absurd (Prod.mk.inj h).2 (by decide)
    · exact absurd (Prod.mk.inj h).2 (by decide)
theorem hts_fin : ∀ b : Bool, ∀ n : Nat, n < 21 → decide (spec_l1Height.f (n : Int) b = some (htI (n : Int) b)) = true := by decide +kernel
theorem hts_f {a : Int} {b : Bool} (h : toneOk a b = true) : spec_l1Height.f a b = some (htI a b) := by
  have hb := toneOk_bd h
  obtain ⟨n, rfl⟩ := Int.eq_ofNat_of_zero_le hb.1
  exact of_decide_eq_true (hts_fin b n (by omega))
theorem diff_w {a b : Int} {x y : Bool} (h : toneOk a x = true) (h' : toneOk b y = true) : wrap64 (htI a x - htI b y) = htI a x - htI b y := by
  have := htI_bd h
  have := htI_bd h'
  unfold wrap64
  omega
theorem l2_test (l : List S30) (a s : Int) (h0 : -20 ≤ a) (h1 : a ≤ 20) (i : Nat) (hi : i < l.length) (hv : toneOk l[i].f0 l[i].f1 = true) (acc : List S30) (hacc : acc.length ≤ 100) (j : Int) (hj : j < 2) (hj0 : 0 ≤ j) (k : Nat) :
    spec_l2Moved.l1 (k + 2) l a s acc (i : Int) false j = if mvOk l[i] a s (j == 1) = true then spec_l2Moved.l1 k l a s (acc ++ [⟨l[i].f0 + a, (j == 1)⟩]) (i : Int) true (j + 1) else spec_l2Moved.l1 k l a s acc (i : Int) false (j + 1) := by
  have hb := toneOk_bd hv
  simp only [spec_l2Moved.l1]
  rw [if_pos hj, Bool.not_false]
  simp only [spec_l2Moved.j2]
  rw [if_pos trivial, if_pos (by omega), if_pos (by omega), rdt_at l i hi, w0 (i := l[i].f0 + a) (by omega) (by omega), tv_spec, tv_ok, Option.bind_some, w0 (i := j + 1) (by omega) (by omega)]
  unfold mvOk
  by_cases hok : toneOk (l[i].f0 + a) (j == 1) = true
  · rw [hok, if_pos rfl, hts_f hok, hts_f hv]
    simp only [Option.bind_some]
    rw [diff_w hok hv, Bool.true_and]
    by_cases hs : htI (l[i].f0 + a) (j == 1) - htI l[i].f0 l[i].f1 = s
    · rw [if_pos hs, if_pos (by omega), if_pos (decide_eq_true hs)]
    · rw [if_neg hs, if_neg (by rw [decide_eq_false hs]; decide)]
  · rw [Bool.eq_false_iff.mpr hok, if_neg (by decide), Bool.false_and, if_neg (by decide)]
theorem l2_found (l : List S30) (a s : Int) (acc : List S30) (i : Nat) (hi : i < 1000) (j : Int) (k : Nat) : spec_l2Moved.l1 (k + 2) l a s acc (i : Int) true j = spec_l2Moved.l0 k l a s acc ((i + 1 : Nat) : Int) := by
  simp only [spec_l2Moved.l1]
  split
  · rw [Bool.not_true]
    simp only [spec_l2Moved.j2]
    rw [if_neg (by decide), if_pos trivial, w1 (by omega)]
  · simp only [spec_l2Moved.j2]
    rw [if_neg (by decide), if_pos trivial, w1 (by omega)]
theorem l2_l0 (l : List S30) (a s : Int) (h0 : -20 ≤ a) (h1 : a ≤ 20) (hl : l.length ≤ 24) (hv : ∀ t ∈ l, toneOk t.f0 t.f1 = true) : ∀ (d i k : Nat) (acc : List S30), i + d = l.length → acc.length ≤ i → 8 * d + 8 ≤ k →
    spec_l2Moved.l0 k l a s acc (i : Int) = some (match mvAll a s (l.drop i) with | some xs => (acc ++ xs, true) | none => ([], false)) := by
  intro d
  induction d with
  | zero =>
    intro i k acc hi ha hk
    obtain ⟨k, rfl⟩ : ∃ m, k = m + 1 := ⟨k - 1, by omega⟩
    simp only [spec_l2Moved.l0]
    rw [if_neg (by omega), List.drop_eq_nil_of_le (by omega)]
    simp [mvAll]
  | succ d ih =>
    intro i k acc hi ha hk
    have hx : i < l.length := by omega
    have hvi := hv _ (List.getElem_mem hx)
    obtain ⟨k, rfl⟩ : ∃ m, k = m + 7 := ⟨k - 7, by omega⟩
    have e0 : spec_l2Moved.l0 (k + 7) l a s acc (i : Int) = spec_l2Moved.l1 (k + 6) l a s acc (i : Int) false 0 := by
      simp only [spec_l2Moved.l0]
      rw [if_pos (by omega)]
    rw [e0, l2_test l a s h0 h1 i hx hvi acc (by omega) 0 (by omega) (by omega) (k + 4), List.drop_eq_getElem_cons hx]
    simp only [mvAll, mvd]
    by_cases hf : mvOk l[i] a s ((0 : Int) == 1) = true
    · have hf' : mvOk l[i] a s false = true := hf
      rw [if_pos hf, if_pos hf', l2_found l a s _ i (by omega) _ (k + 2), ih (i + 1) (k + 2) _ (by omega) (by simp; omega) (by omega), Option.bind_some]
      cases mvAll a s (l.drop (i + 1)) with
      | none => rfl
      | some xs =>
        simp only [Option.bind_some, List.append_assoc, List.singleton_append]
        rfl
    · have hf' : ¬ mvOk l[i] a s false = true := hf
      rw [if_neg hf, if_neg hf', l2_test l a s h0 h1 i hx hvi acc (by omega) (0 + 1) (by omega) (by omega) (k + 2)]
      by_cases hg : mvOk l[i] a s (((0 : Int) + 1) == 1) = true
      · have hg' : mvOk l[i] a s true = true := hg
        rw [if_pos hg, if_pos hg', l2_found l a s _ i (by omega) _ k, ih (i + 1) k _ (by omega) (by simp; omega) (by omega), Option.bind_some]
        cases mvAll a s (l.drop (i + 1)) with
        | none => rfl
        | some xs =>
          simp only [Option.bind_some, List.append_assoc, List.singleton_append]
          rfl
      · have hg' : ¬ mvOk l[i] a s true = true := hg
        rw [if_neg hg, if_neg hg', Option.bind_none]
        simp only [spec_l2Moved.l1]
        rw [if_neg (by omega)]
        simp only [spec_l2Moved.j2]
        rw [if_neg (by decide), if_neg (by decide)]
theorem l2_f (l : List S30) (a s : Int) (h0 : -20 ≤ a) (h1 : a ≤ 20) (hl : l.length ≤ 24) (hv : ∀ t ∈ l, toneOk t.f0 t.f1 = true) (k : Nat) (hk : 210 ≤ k) :
    spec_l2Moved.f k l a s = some (match mvAll a s l with | some xs => (xs, true) | none => ([], false)) := by
  unfold spec_l2Moved.f
  simpa using l2_l0 l a s h0 h1 hl hv l.length 0 k [] (by omega) (by simp) (by omega)
theorem mms_l0 (l : List S30) (a : Int) (h0 : -20 ≤ a) (h1 : a ≤ 20) (hl : l.length ≤ 24) (hv : ∀ t ∈ l, toneOk t.f0 t.f1 = true) (hp : 0 < l.length) (j : Int) (hj : j < 2) (hj0 : 0 ≤ j) (k : Nat) (hk : 210 ≤ k) :
    spec_MelodyMove.l0 (k + 1) l a j = match mvTry l l[0] a (j == 1) with | some xs => some (xs, true) | none => spec_MelodyMove.l0 k l a (j + 1) := by
  have hvi := hv _ (List.getElem_mem hp)
  have hb := toneOk_bd hvi
  have er : rd_T30 l 0 = l[0] := rdt_at l 0 hp
  simp only [spec_MelodyMove.l0]
  rw [if_pos hj, if_pos (by omega), er, w0 (i := l[0].f0 + a) (by omega) (by omega), tv_spec, tv_ok, Option.bind_some, w0 (i := j + 1) (by omega) (by omega)]
  unfold mvTry
  by_cases hok : toneOk (l[0].f0 + a) (j == 1) = true
  · rw [if_pos hok, if_pos hok, hts_f hok, hts_f hvi]
    simp only [Option.bind_some]
    rw [diff_w hok hvi, l2_f l a _ h0 h1 hl hv k hk]
    cases mvAll a (htI (l[0].f0 + a) (j == 1) - htI l[0].f0 l[0].f1) l with
    | none => simp
    | some xs => simp
  · rw [if_neg hok, if_neg hok]
theorem mms_f (l : List S30) (a : Int) (hb : l.length ≤ 1048576) (k : Nat) (hk : l.length + 300 ≤ k) : spec_MelodyMove.f k l a = some (SM l a) := by
  unfold spec_MelodyMove.f SM
  by_cases hn : l.length = 0
  · have e : l = [] := List.length_eq_zero_iff.mp hn
    subst e
    rw [if_pos (by simp), if_pos (by decide)]
    rfl
  · rw [if_neg (by omega), mvs_f l hb k (by omega), Option.bind_some]
    obtain ⟨k, rfl⟩ : ∃ m, k = m + 4 := ⟨k - 4, by omega⟩
    by_cases hM : MV l = true
    · have hl := MV_len hM
      have hv := MV_ok hM
      rw [if_pos hM, if_pos hM, in_spec, Option.bind_some]
      simp only [spec_MelodyMove.j0]
      obtain ⟨t, ts, rfl⟩ : ∃ t ts, l = t :: ts := by
        cases l with
        | nil => simp at hn
        | cons t ts => exact ⟨t, ts, rfl⟩
      unfold mvMove
      dsimp only
      by_cases hr : -20 ≤ a ∧ a ≤ 20
      · rw [if_pos hr, decide_eq_true hr.1, decide_eq_true hr.2, if_neg (by decide), mms_l0 (t :: ts) a hr.1 hr.2 hl hv (by simp) 0 (by omega) (by omega) (k + 2) (by omega)]
        have e1 : mvTry (t :: ts) (t :: ts)[0] a ((0 : Int) == 1) = mvTry (t :: ts) t a false := rfl
        rw [e1]
        cases mvTry (t :: ts) t a false with
        | some xs => rfl
        | none =>
          dsimp only
          rw [mms_l0 (t :: ts) a hr.1 hr.2 hl hv (by simp) (0 + 1) (by omega) (by omega) (k + 1) (by omega)]
          have e2 : mvTry (t :: ts) (t :: ts)[0] a (((0 : Int) + 1) == 1) = mvTry (t :: ts) t a true := rfl
          rw [e2]
          cases mvTry (t :: ts) t a true with
          | some xs => rfl
          | none =>
            dsimp only
            simp only [spec_MelodyMove.l0]
            rw [if_neg (by omega)]
      · rw [if_neg hr, if_pos ?_]
        by_cases h0 : -20 ≤ a
        · rw [decide_eq_true h0, decide_eq_false (fun h => hr ⟨h0, h⟩)]
          rfl
        · rw [decide_eq_false h0]
          rfl
    · rw [if_neg hM, if_neg hM]
      simp only [spec_MelodyMove.j0]
      rw [if_pos trivial]
def fin (p : List S44) : List S44 × Bool := if PV p = true then (p, true) else ([], false)
def PM (l : List S30) (s : List Int) : List S44 × Bool := if MV l = true then (if s.length = l.length then fin (List.zipWith mkv l s) else ([], false)) else ([], false)
theorem pms_l0 (l : List S30) (s : List Int) (hs : s.length = l.length) (hl : l.length ≤ 24) : ∀ (d i k : Nat) (acc : List S44), i + d = l.length → acc.length = i → d + 60 < k →
    spec_PartMake.l0 k l s acc (i : Int) = some (fin (acc ++ List.zipWith mkv (l.drop i) (s.drop i))) := by
  intro d
  induction d with
  | zero =>
    intro i k acc hi ha hk
    obtain ⟨k, rfl⟩ : ∃ m, k = m + 1 := ⟨k - 1, by omega⟩
    simp only [spec_PartMake.l0]
    rw [if_neg (by omega), pvs_f acc (by omega) k (by omega), List.drop_eq_nil_of_le (by omega), Option.bind_some, List.zipWith_nil_left, List.append_nil]
    unfold fin
    split <;> rfl
  | succ d ih =>
    intro i k acc hi ha hk
    obtain ⟨k, rfl⟩ : ∃ m, k = m + 1 := ⟨k - 1, by omega⟩
    have hx : i < l.length := by omega
    have hy : i < s.length := by omega
    simp only [spec_PartMake.l0]
    rw [if_pos (by omega), if_pos (by omega), if_pos (by omega), if_pos (by omega), rdt_at l i hx, rd_at s i hy, w1 (by omega), List.drop_eq_getElem_cons hx, List.drop_eq_getElem_cons hy, List.zipWith_cons_cons]
    have := ih (i + 1) k (acc ++ [mkv l[i] s[i]]) (by omega) (by simp [ha]) (by omega)
    rw [List.append_assoc, List.singleton_append] at this
    exact this
theorem pms_f (l : List S30) (s : List Int) (k : Nat) (hb : l.length ≤ 1048576) (hk : l.length + 100 < k) : spec_PartMake.f k l s = some (PM l s) := by
  unfold spec_PartMake.f PM
  simp only [Option.bind_some]
  rw [mvs_f l hb k (by omega), Option.bind_some]
  obtain ⟨k, rfl⟩ : ∃ m, k = m + 1 := ⟨k - 1, by omega⟩
  by_cases hM : MV l = true
  · rw [if_pos hM, if_pos hM, spec_PartMake.j0]
    by_cases h : s.length = l.length
    · rw [if_neg (by simp; omega), if_pos h]
      simpa using pms_l0 l s h (MV_len hM) l.length 0 k [] (by omega) rfl (by omega)
    · rw [if_pos (by simp; omega), if_neg h]
  · rw [if_neg hM, if_neg hM, spec_PartMake.j0, if_pos rfl]
theorem PM_len (l : List S30) (s : List Int) : (PM l s).1.length ≤ 24 := by
  unfold PM fin
  split
  · rename_i h
    have := MV_len h
    split
    · split
      · simp; omega
      · simp
    · simp
  · simp
def tones (l : List S44) : List S30 := l.map (·.f0)
def beatsOf (l : List S44) : List Int := l.map (·.f1)
def DMV (l : List S44) (a : Int) : List S44 × Bool := if PV l = true then (if (mvMove a (tones l)).2 = true then (List.zipWith mkv (mvMove a (tones l)).1 (beatsOf l), true) else ([], false)) else ([], false)
theorem tones_MV {l : List S44} (h : PV l = true) : MV (tones l) = true := by
  have h1 := PV_len h
  have h2 := PV_all h
  unfold MV tones
  rw [decide_eq_true (by simp; omega), Bool.true_and, List.all_map]
  rw [List.all_eq_true] at h2 ⊢
  intro v hv
  have := h2 v hv
  unfold vv at this
  rw [Bool.and_eq_true] at this
  exact this.1
theorem zip_beats (b : List Int) : ∀ (xs : List S30), xs.length = b.length → beatsOf (List.zipWith mkv xs b) = b := by
  induction b with
  | nil => intro xs h; cases xs with
    | nil => rfl
    | cons x xs => simp at h
  | cons y b ih => intro xs h; cases xs with
    | nil => simp at h
    | cons x xs =>
      have := ih xs (by simpa using h)
      unfold beatsOf at this ⊢
      rw [List.zipWith_cons_cons, List.map_cons, this]
      rfl
theorem zip_tones (xs : List S30) : ∀ (b : List Int), xs.length = b.length → tones (List.zipWith mkv xs b) = xs := by
  induction xs with
  | nil => intro b h; rfl
  | cons x xs ih => intro b h; cases b with
    | nil => simp at h
    | cons y b =>
      have := ih b (by simpa using h)
      unfold tones at this ⊢
      rw [List.zipWith_cons_cons, List.map_cons, this]
      rfl
theorem zip_PV {l : List S44} (h : PV l = true) {xs : List S30} (hn : xs.length = l.length) (hx : ∀ t ∈ xs, tv t.f0 t.f1 = true) : PV (List.zipWith mkv xs (beatsOf l)) = true := by
  have hlen : (beatsOf l).length = l.length := by simp [beatsOf]
  have hb := zip_beats (beatsOf l) xs (by omega)
  have ht := zip_tones xs (beatsOf l) (by omega)
  have hz : (List.zipWith mkv xs (beatsOf l)).length = l.length := by rw [List.length_zipWith]; omega
  have h1 := PV_len h
  have h2 := PV_all h
  have h3 := PV_sum h
  have hs : sumB (List.zipWith mkv xs (beatsOf l)) = sumB l := by
    unfold sumB
    unfold beatsOf at hb
    rw [beatsOf, hb]
  unfold PV
  rw [hz, hs, decide_eq_true h1, decide_eq_true h3, Bool.and_true, Bool.true_and, List.all_eq_true]
  intro v hv
  unfold vv
  rw [Bool.and_eq_true]
  constructor
  · refine hx v.f0 ?_
    rw [← ht]
    exact List.mem_map_of_mem hv
  · have hm : v.f1 ∈ beatsOf l := by
      rw [← hb]
      exact List.mem_map_of_mem hv
    obtain ⟨u, hu, e⟩ := List.mem_map.1 hm
    have := List.all_eq_true.1 h2 u hu
    unfold vv at this
    rw [Bool.and_eq_true, e] at this
    exact this.2
theorem moved_tones {a : Int} {l xs : List S30} (h : mvMove a l = (xs, true)) : ∀ t ∈ xs, tv t.f0 t.f1 = true := by
  obtain ⟨hn, s, hs⟩ := mvMove_ok h
  intro t ht
  obtain ⟨i, hi, e⟩ := List.mem_iff_getElem.1 ht
  rw [tv_ok, ← e]
  exact (hs i (by omega) hi).1
theorem moved_MV {a : Int} {l xs : List S30} (hl : l.length ≤ 24) (h : mvMove a l = (xs, true)) : MV xs = true := by
  have hn := (mvMove_ok h).1
  unfold MV
  rw [decide_eq_true (by omega), Bool.true_and, List.all_eq_true]
  exact moved_tones h
theorem dmi_l0 (l : List S44) (a : Int) (hl : l.length ≤ 12) : ∀ (d i k : Nat) (acc : List S30), i + d = l.length → acc.length ≤ i → d < k →
    impl_DiscantMove.l0 k l a acc l (l.length : Int) (i : Int) = (impl_MelodyMove.f (k - d - 1) (acc ++ tones (l.drop i)) a).bind fun bt => if bt.2 = true then impl_DiscantMove.l1 (k - d - 1) bt.1 [] l (l.length : Int) 0 else some ([], false) := by
  intro d
  induction d with
  | zero =>
    intro i k acc hi ha hk
    obtain ⟨k, rfl⟩ : ∃ m, k = m + 1 := ⟨k - 1, by omega⟩
    simp only [impl_DiscantMove.l0]
    rw [if_neg (by omega), List.drop_eq_nil_of_le (by omega)]
    simp [tones]
  | succ d ih =>
    intro i k acc hi ha hk
    obtain ⟨k, rfl⟩ : ∃ m, k = m + 1 := ⟨k - 1, by omega⟩
    have hx : i < l.length := by omega
    simp only [impl_DiscantMove.l0]
    rw [if_pos (by omega), if_pos (by omega), if_pos (by omega), if_pos (by omega), rdv_at l i hx, w1 (by omega), ih (i + 1) k _ (by omega) (by simp; omega) (by omega), List.drop_eq_getElem_cons hx]
    have e : acc ++ [(⟨l[i].f0.f0, l[i].f0.f1⟩ : S30)] ++ tones (l.drop (i + 1)) = acc ++ tones (l[i] :: l.drop (i + 1)) := by
      rw [List.append_assoc]
      rfl
    rw [e, show k + 1 - (d + 1) - 1 = k - d - 1 by omega]
theorem dmi_l1 (xs : List S30) (l : List S44) (hl : l.length ≤ 12) (hn : xs.length = l.length) : ∀ (d i k : Nat) (acc : List S44), i + d = l.length → acc.length ≤ i → d < k →
    impl_DiscantMove.l1 k xs acc l (l.length : Int) (i : Int) = some (acc ++ List.zipWith mkv (xs.drop i) (beatsOf (l.drop i)), true) := by
  intro d
  induction d with
  | zero =>
    intro i k acc hi ha hk
    obtain ⟨k, rfl⟩ : ∃ m, k = m + 1 := ⟨k - 1, by omega⟩
    simp only [impl_DiscantMove.l1]
    rw [if_neg (by omega), List.drop_eq_nil_of_le (by omega), List.zipWith_nil_left, List.append_nil]
  | succ d ih =>
    intro i k acc hi ha hk
    obtain ⟨k, rfl⟩ : ∃ m, k = m + 1 := ⟨k - 1, by omega⟩
    have hx : i < l.length := by omega
    have hy : i < xs.length := by omega
    simp only [impl_DiscantMove.l1]
    rw [if_pos (by omega), if_pos (by omega), if_pos (by omega), if_pos (by omega), if_pos (by omega), rdv_at l i hx, rdt_at xs i hy, w1 (by omega), ih (i + 1) k _ (by omega) (by simp; omega) (by omega), List.drop_eq_getElem_cons hx, List.drop_eq_getElem_cons hy]
    rw [List.append_assoc]
    rfl
theorem dmi_f (l : List S44) (a : Int) (k : Nat) (hk : 60 ≤ k) : impl_DiscantMove.f k l a = some (DMV l a) := by
  unfold impl_DiscantMove.f DMV
  rw [pvi_f l k (by omega), Option.bind_some]
  by_cases h : PV l = true
  · have hl := PV_len h
    have h0 := dmi_l0 l a hl l.length 0 k [] (by omega) (by simp) (by omega)
    rw [if_pos h, if_pos h]
    rw [show (([] : List S30) ++ tones (l.drop 0)) = tones l by simp] at h0
    rw [show ((0 : Nat) : Int) = 0 from rfl] at h0
    rw [h0, mmi_f (tones l) a _ (by omega), Option.bind_some]
    unfold SM
    rw [if_pos (tones_MV h)]
    obtain ⟨xs, b, hm⟩ : ∃ xs b, mvMove a (tones l) = (xs, b) := ⟨_, _, rfl⟩
    rw [hm]
    dsimp only
    cases b with
    | false => rw [if_neg (by decide), if_neg (by decide)]
    | true =>
      have hn : xs.length = l.length := by rw [(mvMove_ok hm).1]; simp [tones]
      rw [if_pos rfl, if_pos rfl]
      simpa using dmi_l1 xs l hl hn l.length 0 (k - l.length - 1) [] (by omega) (by simp) (by omega)
  · rw [if_neg h, if_neg h]
theorem dms_l0 (l : List S44) (a : Int) (hl : l.length ≤ 12) : ∀ (d i k : Nat) (acc : List S30) (ab : List Int), i + d = l.length → acc.length ≤ i → ab.length ≤ i → d < k →
    spec_DiscantMove.l0 k l a acc ab (i : Int) = (spec_MelodyMove.f (k - d - 1) (acc ++ tones (l.drop i)) a).bind fun bt => if bt.2 = true then (spec_PartMake.f (k - d - 1) bt.1 (ab ++ beatsOf (l.drop i))).bind fun bu => some (bu.1, bu.2) else some ([], false) := by
  intro d
  induction d with
  | zero =>
    intro i k acc ab hi ha hb hk
    obtain ⟨k, rfl⟩ : ∃ m, k = m + 1 := ⟨k - 1, by omega⟩
    simp only [spec_DiscantMove.l0]
    rw [if_neg (by omega), List.drop_eq_nil_of_le (by omega)]
    simp [tones, beatsOf]
  | succ d ih =>
    intro i k acc ab hi ha hb hk
    obtain ⟨k, rfl⟩ : ∃ m, k = m + 1 := ⟨k - 1, by omega⟩
    have hx : i < l.length := by omega
    simp only [spec_DiscantMove.l0]
    rw [if_pos (by omega), if_pos (by omega), if_pos (by omega), if_pos (by omega), rdv_at l i hx, w1 (by omega), ih (i + 1) k _ _ (by omega) (by simp; omega) (by simp; omega) (by omega), List.drop_eq_getElem_cons hx]
    have e : acc ++ [(⟨l[i].f0.f0, l[i].f0.f1⟩ : S30)] ++ tones (l.drop (i + 1)) = acc ++ tones (l[i] :: l.drop (i + 1)) := by
      rw [List.append_assoc]
      rfl
    have e2 : ab ++ [l[i].f1] ++ beatsOf (l.drop (i + 1)) = ab ++ beatsOf (l[i] :: l.drop (i + 1)) := by
      rw [List.append_assoc]
      rfl
    rw [e, e2, show k + 1 - (d + 1) - 1 = k - d - 1 by omega]
theorem dms_f (l : List S44) (a : Int) (hb : l.length ≤ 1048576) (k : Nat) (hk : l.length + 400 ≤ k) : spec_DiscantMove.f k l a = some (DMV l a) := by
  unfold spec_DiscantMove.f DMV
  rw [pvs_f l hb k (by omega), Option.bind_some]
  by_cases h : PV l = true
  · have hl := PV_len h
    have h0 := dms_l0 l a hl l.length 0 k [] [] (by omega) (by simp) (by simp) (by omega)
    rw [if_pos h, if_pos h]
    rw [show (([] : List S30) ++ tones (l.drop 0)) = tones l by simp, show (([] : List Int) ++ beatsOf (l.drop 0)) = beatsOf l by simp] at h0
    rw [show ((0 : Nat) : Int) = 0 from rfl] at h0
    have ht : (tones l).length = l.length := by simp [tones]
    rw [h0, mms_f (tones l) a (by omega) _ (by omega), Option.bind_some]
    unfold SM
    rw [if_pos (tones_MV h)]
    obtain ⟨xs, b, hm⟩ : ∃ xs b, mvMove a (tones l) = (xs, b) := ⟨_, _, rfl⟩
    rw [hm]
    dsimp only
    cases b with
    | false => rw [if_neg (by decide), if_neg (by decide)]
    | true =>
      have hn : xs.length = l.length := by rw [(mvMove_ok hm).1, ht]
      rw [if_pos rfl, if_pos rfl, pms_f xs (beatsOf l) _ (by omega) (by omega), Option.bind_some]
      unfold PM fin
      rw [if_pos (moved_MV (by omega) hm), if_pos (by simp [beatsOf, hn]), if_pos (zip_PV h hn (moved_tones hm))]
  · rw [if_neg h, if_neg h]
theorem exp_steps (a : Int) : ∀ (l : List S44) (xs : List S30), xs.map (·.f0) = (tones l).map (fun t => t.f0 + a) → (expand (List.zipWith mkv xs (beatsOf l))).map (·.f0) = ((expand l).map (·.f0)).map (· + a)
  | [], xs, h => by
    have : xs = [] := by simpa [tones] using h
    subst this
    rfl
  | v :: l, [], h => by simp [tones] at h
  | v :: l, x :: xs, h => by
    have h2 : x.f0 = v.f0.f0 + a ∧ xs.map (·.f0) = (tones l).map (fun t => t.f0 + a) := by simpa [tones] using h
    have ih := exp_steps a l xs h2.2
    have e : List.zipWith mkv (x :: xs) (beatsOf (v :: l)) = mkv x v.f1 :: List.zipWith mkv xs (beatsOf l) := rfl
    rw [e, expand_cons, expand_cons, List.map_append, List.map_append, List.map_append, ih]
    congr 1
    rw [List.map_replicate, List.map_replicate, List.map_replicate]
    show List.replicate v.f1.toNat x.f0 = _
    rw [h2.1]
theorem moved_steps {a : Int} {l xs : List S30} (h : mvMove a l = (xs, true)) : xs.map (·.f0) = l.map (fun t => t.f0 + a) := by
  obtain ⟨hn, s, hs⟩ := mvMove_ok h
  refine List.ext_getElem (by simp [hn]) (fun i h1 h2 => ?_)
  rw [List.getElem_map, List.getElem_map]
  exact (hs i (by simpa using h2) (by simpa using h1)).2.1
/-- A moved part: valid, with the same beats. -/
theorem DMV_ok {l up : List S44} {a : Int} (h : DMV l a = (up, true)) : PV l = true ∧ PV up = true ∧ sumB up = sumB l ∧ beatsOf up = beatsOf l ∧ ∃ xs, mvMove a (tones l) = (xs, true) ∧ xs.length = l.length ∧ up = List.zipWith mkv xs (beatsOf l) := by
  unfold DMV at h
  split at h
  · rename_i hP
    split at h
    · rename_i hM
      obtain ⟨xs, b, hm⟩ : ∃ xs b, mvMove a (tones l) = (xs, b) := ⟨_, _, rfl⟩
      rw [hm] at hM h
      have hb : b = true := hM
      subst hb
      have hn : xs.length = l.length := by rw [(mvMove_ok hm).1]; simp [tones]
      have hz := zip_beats (beatsOf l) xs (by simp [beatsOf, hn])
      have hu := (Prod.mk.inj h).1
      refine ⟨hP, ?_, ?_, ?_, xs, hm, hn, hu.symm⟩
      · rw [← hu]
        exact zip_PV hP hn (moved_tones hm)
      · rw [← hu]
        unfold sumB
        have : (List.zipWith mkv xs (beatsOf l)).map (·.f1) = l.map (·.f1) := hz
        rw [this]
      · rw [← hu]
        exact hz
    · exact absurd (Prod.mk.inj h).2 (by decide)
  · exact absurd (Prod.mk.inj h).2 (by decide)
theorem tgi_f (l0 l1 : List S44) (k : Nat) (hk : 13 ≤ k) : impl_DiscantTogether.f k l0 l1 = some (TG l0 l1) := by
  unfold impl_DiscantTogether.f
  rw [so_f l0 l1 k hk]
  simp only [Option.bind_some]
  by_cases h : TG l0 l1 = true
  · rw [if_pos h, h]
  · rw [if_neg h, Bool.eq_false_iff.mpr h]
theorem rdt_at' (xs : List S30) (i : Nat) (h : i < xs.length) : rd_T30 xs (i : Int) = xs[i] := by
  simp [rd_T30, List.getD_eq_getElem?_getD, h]
theorem sameT_l0 (xs : List S30) (hb : xs.length ≤ 1048576) : ∀ (d i k : Nat), i + d = xs.length → d < k → laws_sameTones.l0 k xs xs (i : Int) = some true := by
  intro d
  induction d with
  | zero =>
    intro i k hi hk
    obtain ⟨k, rfl⟩ : ∃ m, k = m + 1 := ⟨k - 1, by omega⟩
    simp only [laws_sameTones.l0]
    rw [if_neg (by omega)]
  | succ d ih =>
    intro i k hi hk
    obtain ⟨k, rfl⟩ : ∃ m, k = m + 1 := ⟨k - 1, by omega⟩
    simp only [laws_sameTones.l0]
    rw [if_pos (by omega), if_pos (by omega), if_pos (by omega), if_neg (by simp), w1 (by omega)]
    exact ih (i + 1) k (by omega) (by omega)
theorem sameT_f (xs : List S30) (k : Nat) (hb : xs.length ≤ 1048576) (hk : xs.length < k) : laws_sameTones.f k xs xs = some true := by
  unfold laws_sameTones.f
  rw [if_pos rfl]
  simpa using sameT_l0 xs hb xs.length 0 k (by omega) hk
theorem sameV_l0 (xs : List S44) (hb : xs.length ≤ 1048576) : ∀ (d i k : Nat), i + d = xs.length → d < k → laws_sameVoices.l0 k xs xs (i : Int) = some true := by
  intro d
  induction d with
  | zero =>
    intro i k hi hk
    obtain ⟨k, rfl⟩ : ∃ m, k = m + 1 := ⟨k - 1, by omega⟩
    simp only [laws_sameVoices.l0]
    rw [if_neg (by omega)]
  | succ d ih =>
    intro i k hi hk
    obtain ⟨k, rfl⟩ : ∃ m, k = m + 1 := ⟨k - 1, by omega⟩
    simp only [laws_sameVoices.l0]
    rw [if_pos (by omega), if_pos (by omega), if_pos (by omega), if_neg (by simp), w1 (by omega)]
    exact ih (i + 1) k (by omega) (by omega)
theorem sameV_f (xs : List S44) (k : Nat) (hb : xs.length ≤ 1048576) (hk : xs.length < k) : laws_sameVoices.f k xs xs = some true := by
  unfold laws_sameVoices.f
  rw [if_pos rfl]
  simpa using sameV_l0 xs hb xs.length 0 k (by omega) hk
theorem xor_nn (a b : Int) (ha : 0 ≤ a) (ha' : a < 4611686018427387904) (hb : 0 ≤ b) (hb' : b < 4611686018427387904) : 0 ≤ Go.bits .xor .i64 a b := by
  obtain ⟨x, rfl⟩ := Int.eq_ofNat_of_zero_le ha
  obtain ⟨y, rfl⟩ := Int.eq_ofNat_of_zero_le hb
  have hx : x ^^^ y < 2 ^ 62 := Nat.xor_lt_two_pow (by omega) (by omega)
  have h1 : (BitVec.ofInt 64 (x : Int)).toNat = x := by
    rw [BitVec.ofInt_natCast, BitVec.toNat_ofNat]; exact Nat.mod_eq_of_lt (by omega)
  have h2 : (BitVec.ofInt 64 (y : Int)).toNat = y := by
    rw [BitVec.ofInt_natCast, BitVec.toNat_ofNat]; exact Nat.mod_eq_of_lt (by omega)
  have e : Go.bits .xor .i64 (x : Int) (y : Int) = IntKind.i64.wrap (((x ^^^ y : Nat)) : Int) := by
    show IntKind.i64.wrap ((BitVec.ofInt 64 (x : Int) ^^^ BitVec.ofInt 64 (y : Int)).toNat : Int) = _
    rw [BitVec.toNat_xor, h1, h2]
  rw [e, IntWalk.i64_in _ (by omega)]
  omega
/-- A list of bytes. -/
def Bytes (l : List Int) : Prop := ∀ n ∈ l, 0 ≤ n ∧ n ≤ 255
theorem rd_byte {l : List Int} (h : Bytes l) (i : Int) (h0 : 0 ≤ i) (h1 : i < (l.length : Int)) : 0 ≤ rd l i ∧ rd l i ≤ 255 := by
  obtain ⟨n, rfl⟩ := Int.eq_ofNat_of_zero_le h0
  have hn : n < l.length := by omega
  rw [rd_at l n hn]
  exact h _ (List.getElem_mem hn)
theorem tm_bd (a n : Int) (ha : 0 ≤ a) (hn : 0 < n) : 0 ≤ Int.tmod a n ∧ Int.tmod a n < n := by
  rw [Int.tmod_eq_emod_of_nonneg ha]
  exact ⟨Int.emod_nonneg _ (by omega), Int.emod_lt_of_pos _ hn⟩
theorem td_bd (a n : Int) (ha : 0 ≤ a) (hn : 0 < n) : 0 ≤ Int.tdiv a n ∧ Int.tdiv a n ≤ a := by
  rw [Int.tdiv_eq_ediv_of_nonneg ha]
  exact ⟨Int.ediv_nonneg ha (by omega), Int.ediv_le_self _ ha⟩
theorem pick_some (l : List Int) (hl : Bytes l) (hn : l.length ≤ 2000) (p n : Int) (hp : 0 ≤ p) (hp' : p ≤ 1000000) (h1 : 1 ≤ n) (h2 : n ≤ 1000000) :
    ∃ v, 0 ≤ v ∧ v < n ∧ ∀ k, spec_l6Rd_pick.f (k + 1) l p n = some (v, p + 1) := by
  unfold spec_l6Rd_pick.f
  simp only [spec_l6Rd_pick.j0]
  rw [if_neg (show ¬ n < 1 by omega), w0 (i := p + 1) (by omega) (by omega), show p + 1 - 1 = p by omega, w0 (i := p) (by omega) (by omega)]
  by_cases hl0 : l.length = 0
  · refine ⟨0, by omega, by omega, fun k => ?_⟩
    rw [if_pos (show ((l.length : Int) == 0) = true by rw [hl0]; rfl)]
  · rw [if_neg (show ¬ (((l.length : Int) == 0) = true) from fun h => hl0 (by have := beq_iff_eq.1 h; omega))]
    have hlp : (0 : Int) < (l.length : Int) := by omega
    by_cases hpl : p < (l.length : Int)
    · obtain ⟨b0, b1⟩ := rd_byte hl p hp hpl
      rw [if_pos hpl, if_pos hp, if_neg (show ¬ n = 0 by omega), w0 (i := rd l p) (by omega) (by omega)]
      obtain ⟨t0, t1⟩ := tm_bd (rd l p) n b0 (by omega)
      exact ⟨_, t0, t1, fun _ => rfl⟩
    · rw [if_neg hpl, if_neg (show ¬ (l.length : Int) = 0 by omega), w0 (i := p * 7) (by omega) (by omega), w0 (i := p * 7 + 3) (by omega) (by omega)]
      obtain ⟨i0, i1⟩ := tm_bd p (l.length : Int) hp hlp
      obtain ⟨j0, j1⟩ := tm_bd (p * 7 + 3) (l.length : Int) (by omega) hlp
      obtain ⟨q0, q1⟩ := td_bd p (l.length : Int) hp hlp
      rw [if_pos i0, if_pos i1, if_pos j0, if_pos j1, if_neg (show ¬ n = 0 by omega)]
      obtain ⟨a0, a1⟩ := rd_byte hl _ i0 i1
      obtain ⟨b0, b1⟩ := rd_byte hl _ j0 j1
      generalize rd l (Int.tmod p (l.length : Int)) = a at a0 a1 ⊢
      generalize rd l (Int.tmod (p * 7 + 3) (l.length : Int)) = b at b0 b1 ⊢
      generalize Int.tdiv p (l.length : Int) = q at q0 q1 ⊢
      simp (disch := omega) only [w0]
      have x0 : 0 ≤ a * 131 + b * 1117 + p * 29 + q * 53 := by omega
      obtain ⟨d0, d1⟩ := td_bd (a * 131 + b * 1117 + p * 29 + q * 53) 64 x0 (by omega)
      rw [w0 (i := Int.tdiv (a * 131 + b * 1117 + p * 29 + q * 53) 64) (by omega) (by omega)]
      obtain ⟨t0, t1⟩ := tm_bd (Go.bits .xor .i64 (a * 131 + b * 1117 + p * 29 + q * 53) (Int.tdiv (a * 131 + b * 1117 + p * 29 + q * 53) 64)) n (xor_nn _ _ x0 (by omega) d0 (by omega)) (by omega)
      exact ⟨_, t0, t1, fun _ => rfl⟩
/-- What a reader's pick answers. -/
def pk (l : List Int) (p n : Int) : Int := ((spec_l6Rd_pick.f 1 l p n).getD (0, 0)).1
structure Rdr (l : List Int) : Prop where
  bytes : Bytes l
  len : l.length ≤ 2000
theorem pk_f {l : List Int} (h : Rdr l) (p n : Int) (k : Nat) (hp : 0 ≤ p) (hp' : p ≤ 1000000) (h1 : 1 ≤ n) (h2 : n ≤ 1000000) (hk : 1 ≤ k) : spec_l6Rd_pick.f k l p n = some (pk l p n, p + 1) := by
  obtain ⟨v, _, _, hv⟩ := pick_some l h.bytes h.len p n hp hp' h1 h2
  unfold pk
  rw [hv 0]
  obtain ⟨k, rfl⟩ : ∃ m, k = m + 1 := ⟨k - 1, by omega⟩
  rw [hv k]
  rfl
theorem pk_bd {l : List Int} (h : Rdr l) (p n : Int) (hp : 0 ≤ p) (hp' : p ≤ 1000000) (h1 : 1 ≤ n) (h2 : n ≤ 1000000) : 0 ≤ pk l p n ∧ pk l p n < n := by
  obtain ⟨v, h3, h4, hv⟩ := pick_some l h.bytes h.len p n hp hp' h1 h2
  unfold pk
  rw [hv 0]
  exact ⟨h3, h4⟩
theorem open_f (l : List Int) (hl : Bytes l) : ∃ s, spec_l6Open.f l = some (s, 0) ∧ Rdr s := by
  unfold spec_l6Open.f
  by_cases h : (l.length : Int) > 2000
  · rw [if_pos h, if_pos (by omega)]
    exact ⟨_, rfl, ⟨fun n hn => hl n (List.mem_of_mem_take hn), by simp; omega⟩⟩
  · rw [if_neg h]
    exact ⟨_, rfl, ⟨hl, by omega⟩⟩
theorem bytes_of {l : List Int} (h : ∀ n ∈ l, (Lit.int .u8 n).wf = true) : Bytes l := fun n hn => by
  have := h n hn
  simp [Lit.wf, IntKind.min, IntKind.max, IntKind.signed, IntKind.bits] at this
  omega
theorem letter_f (a : Int) : spec_l1Letter.f a = some (Int.tmod a 7) := rfl
theorem clamp_bd (a b x : Int) (h : a ≤ b) : a ≤ mx a (mn b x) ∧ mx a (mn b x) ≤ b := by
  unfold mx mn
  constructor <;> (repeat' split) <;> omega
theorem part_end (l : List Int) (h : Rdr l) (acc : List S44) (x1 x6 p : Int) (ha : acc.length ≤ 12) (hp : 0 ≤ p) (hp' : p ≤ 100000) :
    ∃ out q, out.length ≤ 12 ∧ p ≤ q ∧ q ≤ p + 2 ∧ ∀ k, 2 ≤ k → spec_l92Part.j1 k x1 acc x6 false l p = some (out, q) := by
  by_cases h0 : acc.length = 0
  · refine ⟨acc, p, ha, by omega, by omega, fun k hk => ?_⟩
    obtain ⟨k, rfl⟩ : ∃ m, k = m + 1 := ⟨k - 1, by omega⟩
    rw [spec_l92Part.j1, if_neg (by decide), if_neg (by omega)]
  · by_cases h1 : pk l p 50 = 0
    · obtain ⟨v0, v1⟩ := pk_bd h (p + 1) 2 (by omega) (by omega) (by omega) (by omega)
      refine ⟨acc.set (0 : Int).toNat ⟨⟨(rd_T44 acc 0).f0.f0, (rd_T44 acc 0).f0.f1⟩, rd ([0, 4] : List Int) (pk l (p + 1) 2)⟩, p + 1 + 1, by simp; omega, by omega, by omega, fun k hk => ?_⟩
      obtain ⟨k, rfl⟩ : ∃ m, k = m + 1 := ⟨k - 1, by omega⟩
      rw [spec_l92Part.j1, if_neg (by decide), if_pos (by omega), pk_f h p 50 k (by omega) (by omega) (by omega) (by omega) (by omega)]
      simp only [Option.bind_some]
      rw [if_pos h1, pk_f h (p + 1) 2 k (by omega) (by omega) (by omega) (by omega) (by omega)]
      simp only [Option.bind_some]
      rw [if_pos v0, if_pos (by simpa using v1), if_pos (by omega)]
    · by_cases h2 : pk l p 50 = 1
      · refine ⟨acc.set (0 : Int).toNat ⟨⟨21, (rd_T44 acc 0).f0.f1⟩, (rd_T44 acc 0).f1⟩, p + 1, by simp; omega, by omega, by omega, fun k hk => ?_⟩
        obtain ⟨k, rfl⟩ : ∃ m, k = m + 1 := ⟨k - 1, by omega⟩
        rw [spec_l92Part.j1, if_neg (by decide), if_pos (by omega), pk_f h p 50 k (by omega) (by omega) (by omega) (by omega) (by omega)]
        simp only [Option.bind_some]
        rw [if_neg h1, if_pos h2, if_pos (by omega)]
      · refine ⟨acc, p + 1, ha, by omega, by omega, fun k hk => ?_⟩
        obtain ⟨k, rfl⟩ : ∃ m, k = m + 1 := ⟨k - 1, by omega⟩
        rw [spec_l92Part.j1, if_neg (by decide), if_pos (by omega), pk_f h p 50 k (by omega) (by omega) (by omega) (by omega) (by omega)]
        simp only [Option.bind_some]
        rw [if_neg h1, if_neg h2]
theorem part_l0 (l : List Int) (h : Rdr l) : ∀ (d : Nat) (acc : List S44) (x1 x6 p : Int), acc.length + d = 12 → 0 ≤ x1 → x1 ≤ 1000 → 0 ≤ x6 → x6 ≤ 20 → 0 ≤ p → p ≤ 10000 + 3 * acc.length →
    ∃ out q, out.length ≤ 12 ∧ p ≤ q ∧ q ≤ p + 3 * d + 2 ∧ ∀ k, 2 * d + 4 ≤ k → spec_l92Part.l0 k x1 acc x6 l p = some (out, q) := by
  intro d
  induction d with
  | zero =>
    intro acc x1 x6 p ha h0 h1 h2 h3 hp hp'
    obtain ⟨out, q, ho, q0, q1, hq⟩ := part_end l h acc x1 x6 p (by omega) hp (by omega)
    refine ⟨out, q, ho, q0, by omega, fun k hk => ?_⟩
    obtain ⟨k, rfl⟩ : ∃ m, k = m + 1 := ⟨k - 1, by omega⟩
    rw [spec_l92Part.l0, decide_eq_false (show ¬ (acc.length : Int) < 12 by omega)]
    split
    · exact hq k (by omega)
    · exact hq k (by omega)
  | succ d ih =>
    intro acc x1 x6 p ha h0 h1 h2 h3 hp hp'
    by_cases hx1 : x1 > 0
    · have hmn : 1 ≤ mn 3 x1 ∧ mn 3 x1 ≤ 3 ∧ mn 3 x1 ≤ x1 := by
        unfold mn
        split <;> omega
      obtain ⟨n0, n1⟩ := pk_bd h p (mn 3 x1) (by omega) (by omega) (by omega) (by omega)
      have hn := fun k (hk : 1 ≤ k) => pk_f h p (mn 3 x1) k (by omega) (by omega) (by omega) (by omega) hk
      by_cases hx : Int.tmod x6 7 = 2
      · obtain ⟨v0, v1⟩ := pk_bd h (p + 1 + 1) 5 (by omega) (by omega) (by omega) (by omega)
        obtain ⟨c0, c1⟩ := clamp_bd 1 16 (x6 + pk l (p + 1 + 1) 5 - 2) (by omega)
        obtain ⟨out, q, ho, q0, q1, hq⟩ := ih (acc ++ [⟨⟨x6, pk l (p + 1) 3 == 0⟩, 1 + pk l p (mn 3 x1)⟩]) (x1 - (1 + pk l p (mn 3 x1))) (mx 1 (mn 16 (x6 + pk l (p + 1 + 1) 5 - 2))) (p + 1 + 1 + 1) (by simp; omega) (by omega) (by omega) (by omega) (by omega) (by omega) (by simp; omega)
        refine ⟨out, q, ho, by omega, by omega, fun k hk => ?_⟩
        obtain ⟨k, rfl⟩ : ∃ m, k = m + 2 := ⟨k - 2, by omega⟩
        rw [spec_l92Part.l0, if_pos hx1, decide_eq_true (show (acc.length : Int) < 12 by omega), spec_l92Part.j1, if_pos rfl, hn k (by omega)]
        simp only [Option.bind_some]
        rw [letter_f]
        simp only [Option.bind_some]
        rw [if_pos hx, pk_f h (p + 1) 3 k (by omega) (by omega) (by omega) (by omega) (by omega)]
        simp only [Option.bind_some]
        rw [if_pos (by omega), pk_f h (p + 1 + 1) 5 k (by omega) (by omega) (by omega) (by omega) (by omega)]
        simp only [Option.bind_some]
        rw [w0 (i := 1 + pk l p (mn 3 x1)) (by omega) (by omega), w0 (i := x1 - (1 + pk l p (mn 3 x1))) (by omega) (by omega), w0 (i := x6 + pk l (p + 1 + 1) 5) (by omega) (by omega), w0 (i := x6 + pk l (p + 1 + 1) 5 - 2) (by omega) (by omega)]
        exact hq k (by omega)
      · obtain ⟨v0, v1⟩ := pk_bd h (p + 1) 5 (by omega) (by omega) (by omega) (by omega)
        obtain ⟨c0, c1⟩ := clamp_bd 1 16 (x6 + pk l (p + 1) 5 - 2) (by omega)
        obtain ⟨out, q, ho, q0, q1, hq⟩ := ih (acc ++ [⟨⟨x6, false⟩, 1 + pk l p (mn 3 x1)⟩]) (x1 - (1 + pk l p (mn 3 x1))) (mx 1 (mn 16 (x6 + pk l (p + 1) 5 - 2))) (p + 1 + 1) (by simp; omega) (by omega) (by omega) (by omega) (by omega) (by omega) (by simp; omega)
        refine ⟨out, q, ho, by omega, by omega, fun k hk => ?_⟩
        obtain ⟨k, rfl⟩ : ∃ m, k = m + 2 := ⟨k - 2, by omega⟩
        rw [spec_l92Part.l0, if_pos hx1, decide_eq_true (show (acc.length : Int) < 12 by omega), spec_l92Part.j1, if_pos rfl, hn k (by omega)]
        simp only [Option.bind_some]
        rw [letter_f]
        simp only [Option.bind_some]
        rw [if_neg hx, if_pos (by omega), pk_f h (p + 1) 5 k (by omega) (by omega) (by omega) (by omega) (by omega)]
        simp only [Option.bind_some]
        rw [w0 (i := 1 + pk l p (mn 3 x1)) (by omega) (by omega), w0 (i := x1 - (1 + pk l p (mn 3 x1))) (by omega) (by omega), w0 (i := x6 + pk l (p + 1) 5) (by omega) (by omega), w0 (i := x6 + pk l (p + 1) 5 - 2) (by omega) (by omega)]
        exact hq k (by omega)
    · obtain ⟨out, q, ho, q0, q1, hq⟩ := part_end l h acc x1 x6 p (by omega) hp (by omega)
      refine ⟨out, q, ho, q0, by omega, fun k hk => ?_⟩
      obtain ⟨k, rfl⟩ : ∃ m, k = m + 1 := ⟨k - 1, by omega⟩
      rw [spec_l92Part.l0, if_neg hx1]
      exact hq k (by omega)
theorem part_d (l : List Int) (h : Rdr l) (p a : Int) (h0 : 0 ≤ a) (h1 : a ≤ 1000) (hp : 0 ≤ p) (hp' : p ≤ 9000) : ∃ out q, out.length ≤ 12 ∧ p ≤ q ∧ q ≤ p + 40 ∧ ∀ k, 40 ≤ k → spec_l92Part.f k l p a = some (out, q) := by
  obtain ⟨v0, v1⟩ := pk_bd h p 6 (by omega) (by omega) (by omega) (by omega)
  obtain ⟨out, q, ho, q0, q1, hq⟩ := part_l0 l h 12 [] a (5 + pk l p 6) (p + 1) rfl h0 h1 (by omega) (by omega) (by omega) (by simp; omega)
  refine ⟨out, q, ho, by omega, by omega, fun k hk => ?_⟩
  unfold spec_l92Part.f
  rw [pk_f h p 6 k (by omega) (by omega) (by omega) (by omega) (by omega)]
  simp only [Option.bind_some]
  rw [w0 (i := 5 + pk l p 6) (by omega) (by omega)]
  exact hq k (by omega)
theorem opp_moved {p q : S85} {a : Int} (hp : pv p) (hq : pv q) (h1 : p.f1.f0 = p.f0.f0 + a) (h2 : q.f1.f0 = q.f0.f0 + a) : opp p q = false := by
  have b1 := tv_rng hp.1
  have b3 := tv_rng hq.1
  unfold opp
  rw [show q.f1.f0 - p.f1.f0 = q.f0.f0 - p.f0.f0 by omega, w0 (i := q.f0.f0 - p.f0.f0) (by omega) (by omega)]
  have := sq_nn (z := q.f0.f0 - p.f0.f0) (by omega) (by omega)
  rw [w0 (by omega) (by omega)]
  exact decide_eq_false (by omega)
theorem adj_moved (a : Int) : ∀ xs ys : List S30, (∀ t ∈ xs, tv t.f0 t.f1 = true) → (∀ t ∈ ys, tv t.f0 t.f1 = true) → ys.map (·.f0) = (xs.map (·.f0)).map (· + a) → adj (pairs xs ys) = 0
  | [], _, _, _, _ => by simp [pairs, adj]
  | _ :: _, [], _, _, h => by simp at h
  | [x], y :: r, _, _, h => by
    have e : pairs [x] (y :: r) = [⟨x, y⟩] := by simp [pairs]
    rw [e]
    rfl
  | _ :: _ :: _, [_], _, _, h => by simp at h
  | x :: x' :: r, y :: y' :: s, hx, hy, h => by
    have h' := h
    simp only [List.map_cons, List.cons.injEq] at h'
    have ih := adj_moved a (x' :: r) (y' :: s) (fun t ht => hx t (List.mem_cons_of_mem _ ht)) (fun t ht => hy t (List.mem_cons_of_mem _ ht)) (by simp only [List.map_cons]; rw [h'.2.1, h'.2.2])
    have e : pairs (x :: x' :: r) (y :: y' :: s) = ⟨x, y⟩ :: ⟨x', y'⟩ :: pairs r s := rfl
    have e2 : pairs (x' :: r) (y' :: s) = ⟨x', y'⟩ :: pairs r s := rfl
    have h1 := opp_moved (p := ⟨x, y⟩) (q := ⟨x', y'⟩) (a := a) ⟨hx x (List.mem_cons_self ..), hy y (List.mem_cons_self ..)⟩ ⟨hx x' (List.mem_cons_of_mem _ (List.mem_cons_self ..)), hy y' (List.mem_cons_of_mem _ (List.mem_cons_self ..))⟩ h'.1 h'.2.1
    rw [e2] at ih
    rw [e, adj, ih, h1]
    rfl
theorem dm_l0 (l out : List S44) (a : Int) (hd : DMV l a = (out, true)) : ∀ (d i k : Nat) (m x : List S30), i + d = l.length → m.length ≤ i → x.length ≤ i → m ++ tones (l.drop i) = tones l → x ++ tones (out.drop i) = tones out → d + 400 ≤ k →
    laws_FnDiscantMove.l0 k l a out m x (i : Int) = some true := by
  obtain ⟨hP, hU, hS, hB, xs, hm, hn, hz⟩ := DMV_ok hd
  have hl := PV_len hP
  have ho : out.length = l.length := by
    have := congrArg List.length hB
    simpa [beatsOf] using this
  have htx : tones out = xs := by
    rw [hz]
    exact zip_tones xs (beatsOf l) (by simp [beatsOf, hn])
  have hT : TG l out = true := by
    unfold TG
    rw [hP, hU, hS]
    simp
  have es : (expand out).map (·.f0) = ((expand l).map (·.f0)).map (· + a) := by
    rw [hz]
    exact exp_steps a l xs (moved_steps hm)
  have hcn : CN l out = 0 := by
    unfold CN PS
    rw [if_pos hT, adj_moved a _ _ (exp_tv hP) (exp_tv hU) es]
    rfl
  have hpn : PN l out ≤ PN l l := by
    unfold PN PS
    rw [if_pos hT, if_pos (TG_refl hP), padj_self _ (exp_tv hP)]
    have := par_adj (expand l) (expand out) (exp_tv hP) (exp_tv hU)
    omega
  intro d
  induction d with
  | zero =>
    intro i k m x hi hmi hxi e1 e2 hk
    obtain ⟨k, rfl⟩ : ∃ m, k = m + 1 := ⟨k - 1, by omega⟩
    have e1' : m = tones l := by
      rw [List.drop_eq_nil_of_le (by omega)] at e1
      simpa [tones] using e1
    have e2' : x = tones out := by
      rw [List.drop_eq_nil_of_le (by omega)] at e2
      simpa [tones] using e2
    simp only [laws_FnDiscantMove.l0]
    rw [if_neg (by omega), e1', e2', mmi_f (tones l) a k (by omega), Option.bind_some]
    unfold SM
    rw [if_pos (tones_MV hP), hm]
    dsimp only
    rw [if_pos rfl, htx, sameT_f xs k (by omega) (by omega), Option.bind_some, if_pos rfl, tgi_f l out k (by omega), Option.bind_some, if_pos hT, cni_f l out k (by omega), Option.bind_some, if_pos hcn, pni_f l out k (by omega), Option.bind_some, pni_f l l k (by omega), Option.bind_some]
    exact congrArg some (decide_eq_true hpn)
  | succ d ih =>
    intro i k m x hi hmi hxi e1 e2 hk
    obtain ⟨k, rfl⟩ : ∃ m, k = m + 1 := ⟨k - 1, by omega⟩
    have hx : i < l.length := by omega
    have hy : i < out.length := by omega
    have hbt : out[i].f1 = l[i].f1 := by
      have q1 : (beatsOf out)[i]? = (beatsOf l)[i]? := by rw [hB]
      unfold beatsOf at q1
      simp only [List.getElem?_map, List.getElem?_eq_getElem hx, List.getElem?_eq_getElem hy, Option.map_some] at q1
      exact Option.some.inj q1
    simp only [laws_FnDiscantMove.l0]
    rw [if_pos (by omega), if_pos (by omega), if_pos (by omega), if_pos (by omega), if_pos (by omega), rdv_at l i hx, rdv_at out i hy, if_pos hbt, w1 (by omega)]
    refine ih (i + 1) k _ _ (by omega) (by simp; omega) (by simp; omega) ?_ ?_ (by omega)
    · rw [← e1, List.drop_eq_getElem_cons hx, List.append_assoc]
      rfl
    · rw [← e2, List.drop_eq_getElem_cons hy, List.append_assoc]
      rfl
theorem dm_draw (o : List Int) (hR : Rdr o) (l0 : List Int) (ho : spec_l6Open.f l0 = some (o, 0)) : ∃ l a, l.length ≤ 12 ∧ ∀ k, 60 ≤ k → spec_DrawDiscantMove.f k l0 = some (l, a) := by
  obtain ⟨n0, n1⟩ := pk_bd hR 0 10 (by omega) (by omega) (by omega) (by omega)
  obtain ⟨l, q, hl, q0, q1, hq⟩ := part_d o hR (0 + 1) (pk o 0 10) n0 (by omega) (by omega) (by omega)
  obtain ⟨m0, m1⟩ := pk_bd hR q 7 (by omega) (by omega) (by omega) (by omega)
  refine ⟨l, rd [-7, -4, -3, 0, 3, 4, 7] (pk o q 7), hl, fun k hk => ?_⟩
  unfold spec_DrawDiscantMove.f
  rw [ho, Option.bind_some]
  dsimp only
  rw [pk_f hR 0 10 k (by omega) (by omega) (by omega) (by omega) (by omega), Option.bind_some]
  dsimp only
  rw [hq k (by omega), Option.bind_some, Option.bind_some]
  dsimp only
  rw [pk_f hR q 7 k (by omega) (by omega) (by omega) (by omega) (by omega), Option.bind_some]
  dsimp only
  rw [if_pos m0, if_pos (by simpa using m1)]
theorem FnDiscantMove : ∀ (l0 : List Int), l0.length ≤ maxLen → l0.length * 1 ≤ 140737488351232 → (∀ n ∈ l0, (Lit.int .u8 n).wf = true) → ∃ k, laws_FnDiscantMove.f k l0 = some true := by
  intro l0 z1 z2 hw
  refine ⟨603, ?_⟩
  unfold laws_FnDiscantMove.f
  by_cases h : (l0.length : Int) > 1048576
  · rw [if_pos h]
  · rw [if_neg h]
    obtain ⟨o, ho, hR⟩ := open_f l0 (bytes_of hw)
    obtain ⟨l, a, hl, hq⟩ := dm_draw o hR l0 ho
    obtain ⟨out, r, hd⟩ : ∃ out r, DMV l a = (out, r) := ⟨_, _, rfl⟩
    have hol : out.length ≤ 12 := by
      cases r with
      | true =>
        have hB := (DMV_ok hd).2.2.2.1
        have := congrArg List.length hB
        have h2 : out.length = l.length := by simpa [beatsOf] using this
        omega
      | false =>
        unfold DMV at hd
        split at hd
        · split at hd
          · exact absurd (Prod.mk.inj hd).2 (by decide)
          · rw [← (Prod.mk.inj hd).1]; simp
        · rw [← (Prod.mk.inj hd).1]; simp
    rw [hq 603 (by omega), Option.bind_some]
    dsimp only
    rw [dmi_f l a 603 (by omega), Option.bind_some, dms_f l a (by omega) 603 (by omega), Option.bind_some, hd]
    dsimp only
    rw [if_neg (by simp), sameV_f out 603 (by omega) (by omega), Option.bind_some, if_pos rfl, laws_FnDiscantMove.j0]
    cases r with
    | false =>
      rw [Bool.not_false, if_pos rfl, if_pos (by rfl), sameV_f out 602 (by omega) (by omega), Option.bind_some]
    | true =>
      rw [Bool.not_true, if_neg (by decide)]
      exact dm_l0 l out a hd l.length 0 602 [] [] (by omega) (by simp) (by simp) (by simp) (by simp) (by omega)

end Go.Proofs.YtcndojoghmblaaaDoor.PureFnDiscantMove
