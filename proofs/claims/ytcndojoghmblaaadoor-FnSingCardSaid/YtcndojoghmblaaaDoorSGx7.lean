-- Made by this session's gprint.py out of the translation. Not trusted: Lean checks it.
import Derived.Test.YtcndojoghmblaaaDoorShelf
import Derived.Test.YtcndojoghmblaaaDoorSGx0
import Derived.Test.YtcndojoghmblaaaDoorSGx2
import Derived.Test.YtcndojoghmblaaaDoorSGx3
import Derived.Test.YtcndojoghmblaaaDoorSGx4
import Derived.Test.YtcndojoghmblaaaDoorSGx5
import Derived.Test.YtcndojoghmblaaaDoorSGx6
namespace Go.Proofs.YtcndojoghmblaaaDoor.SG
open Go.RowKit Go.Proofs.YtcndojoghmblaaaDoorW.PrintWords Go.Proofs.YtcndojoghmblaaaDoorW.PrintLast Go.Proofs.YtcndojoghmblaaaDoorW.PrintMore
attribute [local go_sem] max2_int min2_int max_two min_two max_three min_three max_four min_four   -- for this text's walks alone
set_option linter.unusedVariables false
set_option linter.unusedSimpArgs false

def nameOf (k : Nat) : ByteArray := if k = 0 then ⟨#[117, 116]⟩ else if k = 1 then ⟨#[114, 101]⟩ else if k = 2 then ⟨#[109, 105]⟩ else if k = 3 then ⟨#[102, 97]⟩ else if k = 4 then ⟨#[115, 111, 108]⟩ else ⟨#[108, 97]⟩
theorem sylGo_bd (s : Nat) (a : Int) (b : Bool) : ∀ n i, n + i ≤ 6 → -1 ≤ sylGo s a b n i ∧ sylGo s a b n i < 6
 | 0, i, _ => by simp [sylGo]
 | n + 1, i, h => by
  rw [sylGo_step]
  split
  ·omega
  ·exact sylGo_bd s a b n (i + 1) (by omega)
theorem sylOf_bd (s : Nat) (a : Int) (b : Bool) : -1 ≤ sylOf s a b ∧ sylOf s a b < 6 := sylGo_bd s a b 6 0 (by omega)
theorem nameOf_size (k : Nat) : (nameOf k).size ≤ 3 := by
 unfold nameOf
 repeat' split
 all_goals decide

/-! ### SingText, by hand (strings.Join by the shelf's contract) -/
theorem sx_ints {w : World} {A : Option Addr} {n : Nat} {xs : List Int} (h : (Kd.int .i64).C w A n xs) (hn : n = xs.length) (i : Nat) (hi : i < xs.length) : ∃ ad, A = some ad ∧ w.cell? (ad.add i) = some (.int .i64 xs[i]) := by
 obtain ⟨ad, e, hc⟩ := Kd.at_int h (i : Int) (by omega) (by omega)
 refine ⟨ad, e, ?_⟩
 rw [Int.toNat_natCast] at hc
 rw [hc]
 simp [rd, List.getD_eq_getElem?_getD, hi]
theorem sx_strs {w : World} {g n : Nat} {xs : List ByteArray} (h : Kd.string.C w (some ⟨g, 0, none⟩) n xs) (hn : n = xs.length) (j : Nat) (x : ByteArray) (hx : xs[j]? = some x) : w.cell? ⟨g, 0 + j, none⟩ = some (.string x) := by
 obtain ⟨hj, rfl⟩ := List.getElem?_eq_some_iff.1 hx
 obtain ⟨ad, e, hc⟩ := Kd.at_string h (j : Int) (by omega) (by omega)
 obtain rfl : (⟨g, 0, none⟩ : Addr) = ad := by injection e
 rw [Int.toNat_natCast] at hc
 rw [Nat.zero_add, ← add_plain, hc]
 simp [rdOf, List.getD_eq_getElem?_getD, hj]
theorem sx_empty {α : Type} (d : Kd α) (e : Nat) {W : World} {g base : Nat} (ok : Nat → Prop) (hok : ok g) (h : W.heap[g]? = some (.cells #[] e (0, 0))) (hb : base ≤ g) : d.R e W base ok (.slice (some ⟨g, 0, none⟩) 0 0) ([] : List α) :=
 ⟨fun k hk => by
  simp [Value.ownBlock] at hk
  subst hk
  exact hok, [], ⟨by simp, .inr ⟨g, 0, #[], rfl, hb, h, Nat.le_refl _, by simp [maxLen], by simp, by simp⟩⟩, Reps.none _ _⟩
theorem rdSg_at (l : List S30) (i : Nat) (h : i < l.length) : rd_T30 l (i : Int) = l[i] := by
 simp [rd_T30, List.getD_eq_getElem?_getD, h]
theorem rdSi_at (l : List Int) (i : Nat) (h : i < l.length) : rd l (i : Int) = l[i] := by
 simp [rd, List.getD_eq_getElem?_getD, h]
def sylV (h : Int) (t : S30) : Int := (impl_HexSyllable.f h t.f0 t.f1).getD (-1)
def singNames (l : List S30) (s : List Int) : List ByteArray := List.zipWith (fun t h => nameOf (sylV h t).toNat) l s
def joinSp (xs : List ByteArray) : ByteArray := ⟨(Lib.join (xs.map (·.data.toList)) [32]).toArray⟩
def impl_SingText.f (n : Nat) (l0 : List S30) (l1 : List Int) : Option ByteArray := (impl_SingOk.f n l0 l1).bind fun ok => some (if ok = true then joinSp (singNames l0 l1) else ⟨#[]⟩)
theorem sing_l0 : ∀ (k : Nat) (s : List Int) (l : List S30) (i : Nat), i ≤ l.length → l.length ≤ 24 → impl_SingOk.l0 k s l (l.length : Int) (i : Int) = some true → ∀ j (h0 : j < l.length), i ≤ j → ∃ (h1 : j < s.length) (v : Int), impl_HexSyllable.f s[j] l[j].f0 l[j].f1 = some v ∧ 0 ≤ v := by
 intro k
 induction k with
 | zero => intro s l i hi hl h; simp [impl_SingOk.l0] at h
 | succ k ih =>
  intro s l i hi hl h j h0 hij
  simp only [impl_SingOk.l0] at h
  by_cases hlt : i < l.length
  ·rw [if_pos (by omega), if_pos (by omega), if_pos (by omega)] at h
   by_cases hs : i < s.length
   ·rw [if_pos (by omega), rdSi_at s i hs, rdSg_at l i hlt] at h
    obtain ⟨v, hv, h⟩ := Option.bind_eq_some_iff.mp h
    by_cases hv0 : v < 0
    ·rw [if_pos hv0] at h
     exact absurd h (by simp)
    ·rw [if_neg hv0, show wrap64 ((i : Int) + 1) = ((i + 1 : Nat) : Int) by unfold wrap64; omega] at h
     by_cases e : j = i
     ·subst e
      exact ⟨hs, v, hv, by omega⟩
     ·exact ih s l (i + 1) (by omega) hl h j h0 (by omega)
   ·rw [if_neg (by omega)] at h
    exact absurd h (by simp)
  ·omega
theorem sing_facts {k : Nat} {l : List S30} {s : List Int} (h : impl_SingOk.f k l s = some true) : l.length ≤ 24 ∧ s.length = l.length ∧ ∀ j (h0 : j < l.length), ∃ (h1 : j < s.length) (v : Int), impl_HexSyllable.f s[j] l[j].f0 l[j].f1 = some v ∧ 0 ≤ v := by
 unfold impl_SingOk.f at h
 obtain ⟨b, hb, h⟩ := Option.bind_eq_some_iff.mp h
 cases b with
 | false =>
  rw [if_neg (by decide)] at h
  cases k with
  | zero => simp [impl_SingOk.j0] at h
  | succ k => simp only [impl_SingOk.j0, if_true] at h; exact absurd h (by simp)
 | true =>
  rw [if_pos rfl] at h
  have hl : l.length ≤ 24 := by
   unfold impl_MelodyValid.f at hb
   by_cases hl : (l.length : Int) > 24
   ·rw [if_pos hl] at hb
    exact absurd hb (by simp)
   ·omega
  cases k with
  | zero => simp [impl_SingOk.j0] at h
  | succ k =>
   simp only [impl_SingOk.j0] at h
   by_cases hn : (l.length : Int) = (s.length : Int)
   ·rw [if_neg (by simp; omega)] at h
    exact ⟨hl, by omega, fun j h0 => sing_l0 k s l 0 (Nat.zero_le _) hl h j h0 (Nat.zero_le _)⟩
   ·rw [if_pos (by simp; omega)] at h
    exact absurd h (by simp)
theorem syl_six {h : Int} {t : S30} {v : Int} (hv : impl_HexSyllable.f h t.f0 t.f1 = some v) (h0 : 0 ≤ v) : v < 6 := by
 unfold impl_HexSyllable.f at hv
 obtain ⟨b, _, hv⟩ := Option.bind_eq_some_iff.mp hv
 have e := Option.some.inj hv
 have := (sylOf_bd h.toNat t.f0 t.f1).2
 split at e
 ·split at e <;> omega
 ·omega
theorem singNames_snoc {l : List S30} {s : List Int} (hn : s.length = l.length) {i : Nat} (h0 : i < l.length) (h1 : i < s.length) {v : Int} (hv : impl_HexSyllable.f s[i] l[i].f0 l[i].f1 = some v) : (singNames l s).take (i + 1) = (singNames l s).take i ++ [nameOf v.toNat] := by
 have hl : i < (singNames l s).length := by unfold singNames; rw [List.length_zipWith]; omega
 rw [List.take_succ_eq_append_getElem hl]
 congr 1
 simp only [singNames, List.getElem_zipWith, sylV, hv, Option.getD_some]
theorem infoStr : (Tryd.prog.info? 9).map (fun i => (i.zero, i.size, i.bytes)) = some (some (.string ⟨#[]⟩), 1, 16) := by kernel_rfl
theorem tabS_at {w : World} (h : TabS w) (n : Nat) (hn : n < 6) : w.cell? ⟨0, n, none⟩ = some (.string (nameOf n)) := by
 have key : n = 0 ∨ n = 1 ∨ n = 2 ∨ n = 3 ∨ n = 4 ∨ n = 5 := by omega
 rcases key with rfl | rfl | rfl | rfl | rfl | rfl <;> exact h _ _ rfl
theorem singNames_len {l : List S30} {s : List Int} (hn : s.length = l.length) : (singNames l s).length = l.length := by
 unfold singNames
 rw [List.length_zipWith]
 omega
theorem lens_small : ∀ (xs : List (List UInt8)), (∀ x ∈ xs, x.length ≤ 3) → Lib.lens xs ≤ 3 * xs.length
 | [], _ => by simp [Lib.lens]
 | x :: xs, h => by
  have ih := lens_small xs (fun z hz => h z (List.mem_cons_of_mem _ hz))
  have := h x (List.mem_cons_self ..)
  simp only [Lib.lens, List.map_cons, List.sum_cons, List.length_cons] at ih ⊢
  omega
theorem join_len (xs : List (List UInt8)) (h : ∀ x ∈ xs, x.length ≤ 3) : (Lib.join xs [32]).length ≤ 4 * xs.length := by
 cases xs with
 | nil => simp [Lib.join_nil]
 | cons x r =>
  have h1 := h x (List.mem_cons_self ..)
  have h2 := lens_small r (fun z hz => h z (List.mem_cons_of_mem _ hz))
  rw [Lib.join_cons, List.length_append, Lib.joinTail_length, List.length_cons, List.length_cons, List.length_nil]
  omega
theorem names_small (l : List S30) (s : List Int) (hl : l.length ≤ 24) : (Lib.join ((singNames l s).map (·.data.toList)) [32]).length ≤ 140737488355328 := by
 have hm : ∀ b ∈ singNames l s, b.size ≤ 3 := by
  intro b hb
  unfold singNames at hb
  obtain ⟨i, hi, rfl⟩ := List.getElem_of_mem hb
  rw [List.getElem_zipWith]
  exact nameOf_size _
 have h := join_len ((singNames l s).map (·.data.toList)) (by
  intro x hx
  obtain ⟨b, hb, rfl⟩ := List.mem_map.1 hx
  exact hm b hb)
 rw [List.length_map] at h
 have : (singNames l s).length ≤ l.length := by unfold singNames; rw [List.length_zipWith]; omega
 omega
set_option maxHeartbeats 8000000 in
set_option maxRecDepth 100000 in
theorem singText_yes (n : Nat) (A0 : Option Addr) (c0 : Nat) (l0 : List S30) (A1 : Option Addr) (c1 : Nat) (l1 : List Int) (w : World) (hr0 : Kd.C k30 w A0 l0.length l0) (hc0 : l0.length ≤ c0) (hr1 : Kd.C (Kd.int .i64) w A1 l1.length l1) (hc1 : l1.length ≤ c1) (hTL : TabL w) (hTS : TabS w) (h : impl_SingOk.f n l0 l1 = some true) :
  Calls Tryd.prog 43 #[.slice A0 l0.length c0, .slice A1 l1.length c1] w fun e w' => e = .returned (.string (joinSp (singNames l0 l1))) ∧ Below w.heap.size w w' := by
 obtain ⟨hl, hn, hf⟩ := sing_facts h
 have hu2 := Tryd.underlying30
 have HR0 := am hr0
 have HC0 := am hc0
 have HR1 := am hr1
 have HC1 := am hc1
 have HTL := am hTL
 have HTS := am hTS
 have H := am h
 have HF := am hf
 have HN := am hn
 clear hr0 hc0 hr1 hc1 hTL hTS h hf hn
 go_enter Tryd.func43, Tryd.ntmps43
 go_wp2_with fail
 refine (impl_SingOk.calls n A0 c0 l0 A1 c1 l1 true _ HR0.out HC0.out HR1.out HC1.out HTL.out H.out).mono ?_
 rintro e w1 ⟨rfl, hb⟩
 have HB1 := am hb
 have HS1 := am hb.size
 clear hb
 go_wp2_with fail
 have HZ1 := am (blk_new w1 (.cells #[] 9))
 have HB2 := am (below_alloc HB1.out (.cells #[] 9))
 clear HB1
 go_loopg [5, 15] l0.length (fun kq v5 v15 w' => ∃ i : Nat, v15 = .int .i64 (i : Int) ∧ Aside0 (i ≤ l0.length ∧ kq = l0.length - i) ∧ Aside0 (Kd.R Kd.string 9 w' w.heap.size (fun _ => True) v5 ((singNames l0 l1).take i)) ∧ Aside0 (Below w.heap.size w w'))
 case atStart => exact ⟨0, rfl, ⟨by omega, by omega⟩, ⟨sx_empty _ _ _ trivial HZ1.out HS1.out⟩, HB2⟩
 case round =>
  obtain ⟨i, rfl, HI, HO, HB⟩ := hrel
  clear HZ1 HB2
  by_cases hlt : i < l0.length
  ·obtain ⟨h1i, v, hv, hv0⟩ := HF.out i hlt
   have HV6 := syl_six hv hv0
   obtain ⟨ad0, e1, hx0, hx1⟩ := at_T30 (Kd.C_below HR0.out HB.out) (i : Int) (by omega) (by omega)
   cases e1
   simp only [Int.toNat_natCast] at hx0 hx1
   rw [rdSg_at l0 i hlt] at hx0 hx1
   obtain ⟨ad1, rfl, hy⟩ := sx_ints (Kd.C_below HR1.out HB.out) rfl i h1i
   have HSN := am (singNames_snoc HN.out hlt h1i hv)
   obtain ⟨vn, rfl⟩ := Int.eq_ofNat_of_zero_le hv0
   have hvn : vn < 6 := by omega
   rw [Int.toNat_natCast] at HSN
   obtain ⟨t, ht⟩ : ∃ t, t = l0[i] := ⟨_, rfl⟩
   obtain ⟨h, hh⟩ : ∃ h, h = l1[i] := ⟨_, rfl⟩
   rw [← ht] at hx0 hx1 hv
   rw [← hh] at hy hv
   have hsy := tabS_at (TabAt.below HTS.out HB.out) vn hvn
   obtain ⟨nm, hnm⟩ : ∃ nm, nm = nameOf vn := ⟨_, rfl⟩
   rw [← hnm] at HSN hsy
   have HV := am hv
   have HY := am hy
   have HSY := am hsy
   have p0 : 0 ≤ (i : Int) := by omega
   have p1 : (i : Int) < (l0.length : Int) := by omega
   have p2 : (i : Int) < (l1.length : Int) := by omega
   have p3 : 0 ≤ (vn : Int) := by omega
   have p4 : (vn : Int) < 6 := by omega
   replace p0 := eq_true p0
   replace p1 := eq_true p1
   replace p2 := eq_true p2
   replace p3 := eq_true p3
   replace p4 := eq_true p4
   clear hv0 HV6 hvn ht hh hnm hv hy hsy h1i
   go_wp2_with fail
   have hx := below_drew1 (below_alloc (Below.refl wr.heap.size wr) (.cells #[.int .i64 t.f0, .bool t.f1] 30))
   have HX := am (below_drew1 (below_alloc HB.out (.cells #[.int .i64 t.f0, .bool t.f1] 30)))
   have HZ := am (blk_drew (blk_new wr (.cells #[.int .i64 t.f0, .bool t.f1] 30)))
   have HO2 := am (Kd.R_drew (Kd.R_alloc HO.out (.cells #[.int .i64 t.f0, .bool t.f1] 30)))
   refine start_ (n := 12) (S := fun w' => w'.cell? (ad1.add i) = some (.int .i64 h) ∧ w'.cell? ⟨wr.heap.size, 0, none⟩ = some (.int .i64 t.f0) ∧ w'.cell? ⟨wr.heap.size, 1, none⟩ = some (.bool t.f1) ∧ w'.cell? ⟨0, vn, none⟩ = some (.string nm)) (ds := [10]) #[F,F,F,F,F,F,F,F,F,F,F,F] (by kernel_rfl) rfl rfl ⟨pw_cell_below hx HY.out, blk_cell HZ.out 0, blk_cell HZ.out 1, pw_cell_below hx HSY.out⟩ (fun hHeld => ?_)
   generalize (wr.alloc (.cells #[.int .i64 t.f0, .bool t.f1] 30)).drew = wd at HX HZ HO2 hHeld hx ⊢
   refine pz 0 (some 20) #[T,F,F,F,F,F,F,F,F,F,F,F] (by kernel_rfl) (h := ?_)
   refine pz 1 (some 21) #[T,T,F,F,F,F,F,F,F,F,F,F] (by kernel_rfl) (h := ?_)
   refine pz 2 (some 22) #[T,T,T,F,F,F,F,F,F,F,F,F] (by kernel_rfl) (h := ?_)
   refine pz 3 (some 23) #[T,T,T,T,F,F,F,F,F,F,F,F] (by kernel_rfl) (h := ?_)
   refine tz hHeld 4 (some 24) #[T,T,T,T,T,F,F,F,F,F,F,F] (by kernel_rfl) (h := ?_)
   refine tz hHeld 5 (some 25) #[T,T,T,T,T,T,F,F,F,F,F,F] (by kernel_rfl) (h := ?_)
   have HTD : Aside0 (TabL wd) := ⟨TabAt.below HTL.out HX.out⟩
   refine one_ (i := 6) (N := some 26) #[T,T,T,T,T,T,T,F,F,F,F,F] rfl rfl (by kernel_rfl) (by decide) (fun K hK => ?_)
   refine goes_ Tryd.func41 (by kernel_rfl) rfl #[.int .i64 h, .agg #[.int .i64 t.f0, .bool t.f1]] (by rfl) rfl rfl (by (try simp only [List.map_toArray, List.map_cons, List.map_nil]); first | done | rfl) ?_
   with_reducible refine (impl_HexSyllable.calls h t.f0 t.f1 (vn : Int) _ HTD.out HV.out).mono ?_
   rintro e we ⟨rfl, hb⟩
   refine ⟨_, rfl, ?_⟩
   have HX' := am (below_step HX.out hb)
   have HO' := am (Kd.R_below HO2.out hb)
   have hb' := hb
   clear HX HZ hb HO2
   refine hK.out _ _ ⟨pw_cell_below hb' hHeld.1, pw_cell_below hb' hHeld.2.1, pw_cell_below hb' hHeld.2.2.1, pw_cell_below hb' hHeld.2.2.2⟩ (fun hHeld => ?_)
   clear hK K
   refine norm_ (a' := ?_) ?_ ?_
   rotate_left
   ·show Act.put _ (some 26) _ = _
    simp only [Act.put, sA, sZ, sS, i64_w, i32_w]
    rfl
   clear hb'
   refine pz 7 (some 27) #[T,T,T,T,T,T,T,T,F,F,F,F] (by kernel_rfl) (h := ?_)
   refine tz hHeld 8 (some 28) #[T,T,T,T,T,T,T,T,T,F,F,F] (by kernel_rfl) (h := ?_)
   refine one_ (i := 9) (N := some 29) #[T,T,T,T,T,T,T,T,T,T,F,F] rfl rfl (by kernel_rfl) (by decide) (fun K hK => ?_)
   refine value_ (w1 := ?_) (v := ?_) (by rfl) rfl ?_ ?_
   rotate_left 2
   ·go_simp
    constructor
    ·rfl
    ·rfl
   refine hK.out _ _ ⟨pw_cell_below (below_alloc (Below.refl _ _) _) hHeld.1, pw_cell_below (below_alloc (Below.refl _ _) _) hHeld.2.1, pw_cell_below (below_alloc (Below.refl _ _) _) hHeld.2.2.1, pw_cell_below (below_alloc (Below.refl _ _) _) hHeld.2.2.2⟩ (fun hHeld => ?_)
   clear hK K
   refine norm_ (a' := ?_) ?_ ?_
   rotate_left
   ·show Act.put _ (some 29) _ = _
    simp only [Act.put, sA, sZ, sS, i64_w, i32_w]
    rfl
   refine last_ (i := 10) (N := some 30) #[T,T,T,T,T,T,T,T,T,T,T,F] rfl rfl (by kernel_rfl) (by decide) (fun K hK => ?_)
   refine Kd.R_append_step Kd.string (w0 := w) w.heap.size (by rfl) (.tmp 20) (.tmp 29) 69 9 (.string ⟨#[]⟩) 16 rfl Tryd.underlying69 infoStr rfl (by decide) (by omega) u5 ((singNames l0 l1).take i) nm [.string nm] (fun _ => True) (fun _ => False) rfl rfl ?aP (fun _ hk => hk.elim) ?aF ?aO ?aB ?aS ?aL ?_
   (case aP => exact rfl)
   (case aB => exact HX'.out)
   (case aF => exact (fun _ _ => trivial))
   (case aO => exact HO'.out)
   (case aS => exact (below_size HX'.out))
   (case aL => rw [List.length_take]; omega)
   intro v1 w6 ho hb hg hat
   have HO6 := am ho
   have HB6 := am hb
   clear ho hb hg hat
   refine hK.out _ _ ?_
   clear hK K
   refine norm_ (a' := ?_) ?_ ?_
   rotate_left
   ·show Act.put _ (some 30) _ = _
    simp only [Act.put, sA, sZ, sS, i64_w, i32_w]
    rfl
   refine pz 11 (some 5) #[T,T,T,T,T,T,T,T,T,T,T,T] (by kernel_rfl) (h := ?_)
   refine done_ (by kernel_rfl) ?_
   clear hHeld hx HX' HO'
   go_wp2_with fail
   go_roundg (l0.length - (i + 1))
   case measure => have := HI.out; omega
   case rel => exact ⟨i + 1, by simp, ⟨by omega, rfl⟩, ⟨by rw [HSN.out]; exact HO6.out⟩, HB6⟩
  ·have ei : i = l0.length := by have := HI.out; omega
   subst ei
   have ho := HO.out
   rw [List.take_of_length_le (by rw [singNames_len HN.out]; exact Nat.le_refl _)] at ho
   by_cases hz : l0.length = 0
   ·obtain ⟨A5, c5, rfl⟩ := Kd.R_slice ho
    have e0 : (singNames l0 l1).length = 0 := by rw [singNames_len HN.out, hz]
    have e1 : singNames l0 l1 = [] := List.eq_nil_of_length_eq_zero e0
    have E1 := am e1
    rw [e0]
    clear ho e1
    go_wp2_with fail
    refine (Tryd.strings_Join_none A5 c5 ⟨#[32]⟩ _).mono ?_
    rintro e w9 ⟨rfl, rfl⟩
    go_wp2_with fail
    go_ret
    exact ⟨by rw [E1.out]; rfl, HB.out⟩
   ·obtain ⟨g5, c5, rfl, _, hg5, _⟩ := Kd.R_form ho (by rw [singNames_len HN.out]; omega)
    have HG9 := am hg5
    have HC9 := am (Kd.R_reads' ho)
    clear ho hg5
    go_wp2_with fail
    refine (Tryd.strings_Join g5 0 c5 (singNames l0 l1) ⟨#[32]⟩ _ (fun j x hx => sx_strs HC9.out.2.2 rfl j x hx) HG9.out (by rw [singNames_len HN.out]; omega) HC9.out.2.1 (names_small l0 l1 hl)).mono ?_
    rintro e w9 ⟨rfl, hb9⟩
    have HB9 := am (below_step HB.out hb9)
    clear hb9
    go_wp2_with fail
    go_ret
    exact ⟨rfl, HB9.out⟩
theorem impl_SingText.calls (n : Nat) (A0 : Option Addr) (c0 : Nat) (l0 : List S30) (A1 : Option Addr) (c1 : Nat) (l1 : List Int) (r : ByteArray) (w : World) (hr0 : Kd.C k30 w A0 l0.length l0) (hc0 : l0.length ≤ c0) (hr1 : Kd.C (Kd.int .i64) w A1 l1.length l1) (hc1 : l1.length ≤ c1) (hTL : TabL w) (hTS : TabS w) (h : impl_SingText.f n l0 l1 = some r) :
  Calls Tryd.prog 43 #[.slice A0 l0.length c0, .slice A1 l1.length c1] w fun e w' => e = .returned (.string r) ∧ Below w.heap.size w w' := by
 unfold impl_SingText.f at h
 obtain ⟨b, hb, h⟩ := Option.bind_eq_some_iff.mp h
 have h := Option.some.inj h
 cases b with
 | true =>
  rw [if_pos rfl] at h
  rw [← h]
  exact singText_yes n A0 c0 l0 A1 c1 l1 w hr0 hc0 hr1 hc1 hTL hTS hb
 | false =>
  rw [if_neg (by decide)] at h
  rw [← h]
  clear h
  have HR0 := am hr0
  have HC0 := am hc0
  have HR1 := am hr1
  have HC1 := am hc1
  have HTL := am hTL
  have H := am hb
  clear hr0 hc0 hr1 hc1 hTL hTS hb
  go_enter Tryd.func43, Tryd.ntmps43
  go_wp2_with fail
  refine (impl_SingOk.calls n A0 c0 l0 A1 c1 l1 false _ HR0.out HC0.out HR1.out HC1.out HTL.out H.out).mono ?_
  rintro e w1 ⟨rfl, hb⟩
  have HB1 := am hb
  clear hb
  go_wp2_with fail
  go_ret
  exact ⟨rfl, HB1.out⟩


/-! ### spec_MelodyValid: function 93 -/
def spec_MelodyValid.l0 : Nat → List (S30) → Int → Option (Bool)
 | 0, _, _ => none
 | k + 1, x0, x3 => if x3 < (x0.length : Int) then (if 0 ≤ x3 then ((spec_ToneValid.f ((rd_T30 x0 x3).f0) ((rd_T30 x0 x3).f1)).bind fun t227 => (if t227 = true then (spec_MelodyValid.l0 k x0 (wrap64 (x3 + 1))) else (some false))) else (none)) else (some (decide ((x0.length : Int) ≤ 24)))
def spec_MelodyValid.f (k : Nat) (l0 : List (S30)) : Option (Bool) := spec_MelodyValid.l0 k l0 0
set_option maxHeartbeats 8000000 in
set_option maxRecDepth 100000 in
theorem spec_MelodyValid.calls (k : Nat) (A0 : Option Addr) (c0 : Nat) (l0 : List (S30)) (r : Bool) (w : World) (hr0 : Kd.C k30 w A0 l0.length l0) (hc0 : l0.length ≤ c0) (h : spec_MelodyValid.f k l0 = some r) :
  Calls Tryd.prog 93 #[.slice A0 l0.length c0] w fun e w' => e = .returned (.bool r) ∧ Below w.heap.size w w' := by
 have hu30 := Tryd.underlying30
 have HR0 := am hr0
 have HC0 := am hc0
 clear hr0 hc0
 have HB := am (Below.refl w.heap.size w)
 have H : (spec_MelodyValid.l0 k l0 0) = some r := h
 clear h
 have H' := am H
 clear H
 go_enter Tryd.func93, Tryd.ntmps93
 go_wp2
 go_loopg [3] k (fun kq v3 w' => ∃ (x3_1 : Int), v3 = .int .i64 x3_1 ∧ Aside0 (spec_MelodyValid.l0 kq l0 x3_1 = some r) ∧ Aside0 (kq ≤ k) ∧ Aside0 (Below w.heap.size w w'))
 case atStart => exact ⟨(0), (by first | rfl | (simp; done) | (simp [*]; done)), H', ⟨Nat.le_refl _⟩, ⟨bu HB.out⟩⟩
 case round =>
  clear H'
  obtain ⟨x3_1, rfl, HA, HK1, HB⟩ := hrel
  cases gk with
  | zero => exact absurd HA.out (by simp [spec_MelodyValid.l0])
  | succ k1 =>
   have H := HA.out
   clear HA
   simp only [spec_MelodyValid.l0] at H
   by_cases c2 : x3_1 < (l0.length : Int)
   ·rw [if_pos c2] at H
    have c2b0 : decide (x3_1 < (l0.length : Int)) = true := decide_eq_true c2
    clear c2
    by_cases c3 : 0 ≤ x3_1
    ·rw [if_pos c3] at H
     have c3b0 : decide (0 ≤ x3_1) = true := decide_eq_true c3
     clear c3
     replace H := Option.bind_eq_some_iff.mp H
     obtain ⟨t227, A40, H⟩ := H
     replace H : (if t227 = true then (spec_MelodyValid.l0 k1 l0 (wrap64 (x3_1 + 1))) else (some false)) = some r := H
     have A4 := am A40
     clear A40
     by_cases c5 : t227 = true
     ·subst c5
      have H1 : (spec_MelodyValid.l0 k1 l0 (wrap64 (x3_1 + 1))) = some r := by rw [if_pos rfl] at H; exact H
      clear H
      have H := H1
      clear H1
      have H' := am H
      clear H
      have p226 : 0 ≤ (x3_1 : Int) := od
      have q226 : x3_1 < (l0.length : Int) := od
      obtain ⟨ad226, e226, hx226_0, hx226_1⟩ := at_T30 HR0.out x3_1 p226 q226
      cases e226
      replace hx226_0 := (HB.out.cell (World.block_lt_of_cell? w _ hx226_0)).trans hx226_0
      replace hx226_1 := (HB.out.cell (World.block_lt_of_cell? w _ hx226_1)).trans hx226_1
      replace p226 := eq_true p226
      replace q226 := eq_true q226
      go_wp2_with (first | ((with_reducible refine gate_callee (f := 130) rfl ?_); refine goesL_ (some 14) rfl rfl Tryd.func130 (by kernel_rfl) rfl #[.agg #[.int .i64 ((rd_T30 l0 x3_1).f0), .bool ((rd_T30 l0 x3_1).f1)]] rfl (by (try simp only [List.map_toArray, List.map_cons, List.map_nil]); first | done | rfl | (simp only [List.length_drop, List.length_take]; rfl)) ?_; (with_reducible refine (spec_ToneValid.calls ((rd_T30 l0 x3_1).f0) ((rd_T30 l0 x3_1).f1) true _ A4.out).mono ?_); rintro e w6 ⟨rfl, hb⟩; refine ⟨_, rfl, ?_⟩; have n0_ := am (below_step (bu HB.out) hb); clear HB; have HB := n0_; clear n0_; (try clear hb); (try clear hb2); (try clear hk); (try clear hi)))
      go_roundg k1
      case measure => have := HK1.out; omega
      case rel => exact ⟨(wrap64 (x3_1 + 1)), (by first | rfl | (simp; done) | (simp [*]; done)), H', ⟨by have := HK1.out; omega⟩, ⟨bu HB.out⟩⟩
     ·replace c5 := Bool.eq_false_iff.mpr c5
      subst c5
      have H1 : (some false) = some r := by rw [if_neg (show ¬ (false = true) by decide)] at H; exact H
      clear H
      have H := H1
      clear H1
      obtain rfl := Option.some.inj H
      have p226 : 0 ≤ (x3_1 : Int) := od
      have q226 : x3_1 < (l0.length : Int) := od
      obtain ⟨ad226, e226, hx226_0, hx226_1⟩ := at_T30 HR0.out x3_1 p226 q226
      cases e226
      replace hx226_0 := (HB.out.cell (World.block_lt_of_cell? w _ hx226_0)).trans hx226_0
      replace hx226_1 := (HB.out.cell (World.block_lt_of_cell? w _ hx226_1)).trans hx226_1
      replace p226 := eq_true p226
      replace q226 := eq_true q226
      go_wp2_with (first | ((with_reducible refine gate_callee (f := 130) rfl ?_); refine goesL_ (some 14) rfl rfl Tryd.func130 (by kernel_rfl) rfl #[.agg #[.int .i64 ((rd_T30 l0 x3_1).f0), .bool ((rd_T30 l0 x3_1).f1)]] rfl (by (try simp only [List.map_toArray, List.map_cons, List.map_nil]); first | done | rfl | (simp only [List.length_drop, List.length_take]; rfl)) ?_; (with_reducible refine (spec_ToneValid.calls ((rd_T30 l0 x3_1).f0) ((rd_T30 l0 x3_1).f1) false _ A4.out).mono ?_); rintro e w7 ⟨rfl, hb⟩; refine ⟨_, rfl, ?_⟩; have n0_ := am (below_step (bu HB.out) hb); clear HB; have HB := n0_; clear n0_; (try clear hb); (try clear hb2); (try clear hk); (try clear hi)))
      go_ret
      exact ⟨by first | rfl | (simp [errW_none, errW_some] <;> rfl) | (simp [*, errW_none, errW_some] <;> rfl), bu HB.out⟩
    ·rw [if_neg c3] at H
     exact absurd H (by simp)
   ·rw [if_neg c2] at H
    have c2b0 : decide (x3_1 < (l0.length : Int)) = false := decide_eq_false c2
    clear c2
    obtain rfl := Option.some.inj H
    go_wp2
    go_ret
    exact ⟨by first | rfl | (simp [errW_none, errW_some] <;> rfl) | (simp [*, errW_none, errW_some] <;> rfl), bu HB.out⟩

/-! ### spec_SingOk: function 101 -/
mutual
def spec_SingOk.j0 : Nat → List (S30) → List Int → Bool → Option (Bool)
 | 0, _, _, _ => none
 | k + 1, x0, x1, x15 => if x15 = true then (some false) else (spec_SingOk.l0 k x0 x1 0)
def spec_SingOk.l0 : Nat → List (S30) → List Int → Int → Option (Bool)
 | 0, _, _, _ => none
 | k + 1, x0, x1, x5 => if x5 < (x0.length : Int) then (if 0 ≤ x5 then (if x5 < (x1.length : Int) then ((spec_HexSyllable.f k (rd x1 x5) ((rd_T30 x0 x5).f0) ((rd_T30 x0 x5).f1)).bind fun t231 => (if t231 < 0 then (some false) else (spec_SingOk.l0 k x0 x1 (wrap64 (x5 + 1))))) else (none)) else (none)) else (some true)
end
def spec_SingOk.f (k : Nat) (l0 : List (S30)) (l1 : List Int) : Option (Bool) := (spec_MelodyValid.f k l0).bind fun t228 => (if t228 = true then (spec_SingOk.j0 k l0 l1 ((l1.length : Int) != (l0.length : Int))) else (spec_SingOk.j0 k l0 l1 true))
def spec_SingOk.T6 : Bool × List (List Nat × List Nat) := (true, [([], []), ([], []), ([0, 1], [0, 1]), ([2], [2]), ([], []), ([], []), ([4, 5], [4, 5]), ([6], [6]), ([3, 7], [3, 7]), ([8], [8])])
def spec_SingOk.B6 : List Nat := [0, 0, 3, 7, 0, 0, 48, 112, 255, 511]
theorem spec_SingOk.tab6 : rtab .any (opsOf Tryd.f101 6) = spec_SingOk.T6 := by kernel_rfl
theorem spec_SingOk.bits6 : waitsOk spec_SingOk.T6.2 spec_SingOk.B6 = true := by kernel_rfl
set_option maxHeartbeats 8000000 in
set_option maxRecDepth 100000 in
theorem spec_SingOk.calls (k : Nat) (A0 : Option Addr) (c0 : Nat) (l0 : List (S30)) (A1 : Option Addr) (c1 : Nat) (l1 : List Int) (r : Bool) (w : World) (hr0 : Kd.C k30 w A0 l0.length l0) (hc0 : l0.length ≤ c0) (hr1 : Kd.C (Kd.int .i64) w A1 l1.length l1) (hc1 : l1.length ≤ c1) (h : spec_SingOk.f k l0 l1 = some r) :
  Calls Tryd.prog 101 #[.slice A0 l0.length c0, .slice A1 l1.length c1] w fun e w' => e = .returned (.bool r) ∧ Below w.heap.size w w' := by
 have hu30 := Tryd.underlying30
 have HR0 := am hr0
 have HC0 := am hc0
 clear hr0 hc0
 have HR1 := am hr1
 have HC1 := am hc1
 clear hr1 hc1
 have HB := am (Below.refl w.heap.size w)
 have H : ((spec_MelodyValid.f k l0).bind fun t228 => (if t228 = true then (spec_SingOk.j0 k l0 l1 ((l1.length : Int) != (l0.length : Int))) else (spec_SingOk.j0 k l0 l1 true))) = some r := h
 clear h
 have HC3 := am H
 clear H
 go_enter Tryd.func101, Tryd.ntmps101
 go_upto_region 1 with (fail)
 go_cut [15] (fun v15 wc => ∃ (kq : Nat) (x15_2 : Bool), v15 = .bool x15_2 ∧ Aside0 (spec_SingOk.j0 kq l0 l1 x15_2 = some r) ∧ Aside0 (kq ≤ k) ∧ Aside0 (Below w.heap.size w wc))
 case first =>
  have H := HC3.out
  clear HC3
  replace H := Option.bind_eq_some_iff.mp H
  obtain ⟨t228, A40, H⟩ := H
  replace H : (if t228 = true then (spec_SingOk.j0 k l0 l1 ((l1.length : Int) != (l0.length : Int))) else (spec_SingOk.j0 k l0 l1 true)) = some r := H
  have A4 := am A40
  clear A40
  by_cases c5 : t228 = true
  ·subst c5
   have H1 : (spec_SingOk.j0 k l0 l1 ((l1.length : Int) != (l0.length : Int))) = some r := by rw [if_pos rfl] at H; exact H
   clear H
   have H := H1
   clear H1
   have H' := am H
   clear H
   go_wp2_with (first | ((with_reducible refine gate_callee (f := 93) rfl ?_); refine goesL_ (some 7) rfl rfl Tryd.func93 (by kernel_rfl) rfl #[.slice A0 l0.length c0] rfl (by (try simp only [List.map_toArray, List.map_cons, List.map_nil]); first | done | rfl | (simp only [List.length_drop, List.length_take]; rfl)) ?_; (with_reducible refine (spec_MelodyValid.calls k _ _ l0 true _ ?side1 ?side2 A4.out).mono ?_); (case side1 => repeat (first | exact (Kd.C_below HR0.out HB.out) | (with_reducible refine Kd.C_alloc ?_ _) | (with_reducible refine Kd.C_drewN ?_ _) | (with_reducible refine Kd.C_drew ?_))); (case side2 => exact HC0.out); rintro e w6 ⟨rfl, hb⟩; refine ⟨_, rfl, ?_⟩; have n0_ := am (below_step (bu HB.out) hb); clear HB; have HB := n0_; clear n0_; (try clear hb); (try clear hb2); (try clear hk); (try clear hi)))
   go_meet
   case rel => exact ⟨_, (((l1.length : Int) != (l0.length : Int))), (by first | rfl | (simp; done) | (simp [*]; done)), H', ⟨by first | omega | exact Nat.le_refl _⟩, ⟨bu HB.out⟩⟩
  ·replace c5 := Bool.eq_false_iff.mpr c5
   subst c5
   have H1 : (spec_SingOk.j0 k l0 l1 true) = some r := by rw [if_neg (show ¬ (false = true) by decide)] at H; exact H
   clear H
   have H := H1
   clear H1
   have H' := am H
   clear H
   go_wp2_with (first | ((with_reducible refine gate_callee (f := 93) rfl ?_); refine goesL_ (some 7) rfl rfl Tryd.func93 (by kernel_rfl) rfl #[.slice A0 l0.length c0] rfl (by (try simp only [List.map_toArray, List.map_cons, List.map_nil]); first | done | rfl | (simp only [List.length_drop, List.length_take]; rfl)) ?_; (with_reducible refine (spec_MelodyValid.calls k _ _ l0 false _ ?side1 ?side2 A4.out).mono ?_); (case side1 => repeat (first | exact (Kd.C_below HR0.out HB.out) | (with_reducible refine Kd.C_alloc ?_ _) | (with_reducible refine Kd.C_drewN ?_ _) | (with_reducible refine Kd.C_drew ?_))); (case side2 => exact HC0.out); rintro e w7 ⟨rfl, hb⟩; refine ⟨_, rfl, ?_⟩; have n0_ := am (below_step (bu HB.out) hb); clear HB; have HB := n0_; clear n0_; (try clear hb); (try clear hb2); (try clear hk); (try clear hi)))
   go_meet
   case rel => exact ⟨_, (true), (by first | rfl | (simp; done) | (simp [*]; done)), H', ⟨by first | omega | exact Nat.le_refl _⟩, ⟨bu HB.out⟩⟩
 case rest =>
  clear HC3
  try clear c1
  try clear p2
  try clear c5
  obtain ⟨kq, x15_2, rfl, HA, HJ2, HB⟩ := hcut
  cases kq with
  | zero => exact absurd HA.out (by simp [spec_SingOk.j0])
  | succ kj2 =>
   have H := HA.out
   clear HA
   simp only [spec_SingOk.j0] at H
   by_cases c8 : x15_2 = true
   ·subst c8
    have H1 : (some false) = some r := by rw [if_pos rfl] at H; exact H
    clear H
    have H := H1
    clear H1
    obtain rfl := Option.some.inj H
    go_wp2
    go_ret
    exact ⟨by first | rfl | (simp [errW_none, errW_some] <;> rfl) | (simp [*, errW_none, errW_some] <;> rfl), bu HB.out⟩
   ·replace c8 := Bool.eq_false_iff.mpr c8
    subst c8
    have H1 : (spec_SingOk.l0 kj2 l0 l1 0) = some r := by rw [if_neg (show ¬ (false = true) by decide)] at H; exact H
    clear H
    have H := H1
    clear H1
    have H' := am H
    clear H
    go_wp2
    go_loopg [5] kj2 (fun kq v5 w' => ∃ (x5_2 : Int), v5 = .int .i64 x5_2 ∧ Aside0 (spec_SingOk.l0 kq l0 l1 x5_2 = some r) ∧ Aside0 (kq ≤ kj2) ∧ Aside0 (Below w.heap.size w w'))
    case atStart => exact ⟨(0), (by first | rfl | (simp; done) | (simp [*]; done)), H', ⟨Nat.le_refl _⟩, ⟨bu HB.out⟩⟩
    case round =>
     clear H'
     try clear c1
     try clear p2
     try clear c5
     try clear c8
     try clear p2
     obtain ⟨x5_2, rfl, HA, HK2, HB⟩ := hrel
     cases gk with
     | zero => exact absurd HA.out (by simp [spec_SingOk.l0])
     | succ k2 =>
      have H := HA.out
      clear HA
      simp only [spec_SingOk.l0] at H
      by_cases c9 : x5_2 < (l0.length : Int)
      ·rw [if_pos c9] at H
       have c9b0 : decide (x5_2 < (l0.length : Int)) = true := decide_eq_true c9
       clear c9
       by_cases c10 : 0 ≤ x5_2
       ·rw [if_pos c10] at H
        have c10b0 : decide (0 ≤ x5_2) = true := decide_eq_true c10
        clear c10
        by_cases c11 : x5_2 < (l1.length : Int)
        ·rw [if_pos c11] at H
         have c11b0 : decide (x5_2 < (l1.length : Int)) = true := decide_eq_true c11
         clear c11
         replace H := Option.bind_eq_some_iff.mp H
         obtain ⟨t231, A120, H⟩ := H
         replace H : (if t231 < 0 then (some false) else (spec_SingOk.l0 k2 l0 l1 (wrap64 (x5_2 + 1)))) = some r := H
         have A12 := am A120
         clear A120
         by_cases c13 : t231 < 0
         ·rw [if_pos c13] at H
          have c13b0 : decide (t231 < 0) = true := decide_eq_true c13
          clear c13
          obtain rfl := Option.some.inj H
          try go_wp2
          have n0_ := am (below_drew1 HB.out)
          clear HB
          have HB := n0_
          clear n0_
          have p229 : 0 ≤ (x5_2 : Int) := od
          have q229 : x5_2 < (l1.length : Int) := od
          obtain ⟨ad229, e229, hx229_0⟩ := Kd.at_int HR1.out x5_2 p229 q229
          have hw229_0 := hx229_0
          cases e229
          replace hx229_0 := (HB.out.cell (World.block_lt_of_cell? w _ hx229_0)).trans hx229_0
          replace p229 := eq_true p229
          replace q229 := eq_true q229
          have p230 : 0 ≤ (x5_2 : Int) := od
          have q230 : x5_2 < (l0.length : Int) := od
          obtain ⟨ad230, e230, hx230_0, hx230_1⟩ := at_T30 HR0.out x5_2 p230 q230
          have hw230_1 := hx230_1
          have hw230_0 := hx230_0
          cases e230
          replace hx230_0 := (HB.out.cell (World.block_lt_of_cell? w _ hx230_0)).trans hx230_0
          replace hx230_1 := (HB.out.cell (World.block_lt_of_cell? w _ hx230_1)).trans hx230_1
          replace p230 := eq_true p230
          replace q230 := eq_true q230
          refine start_ (n := 10) (S := fun w' => w'.cell? (ad229.add (x5_2).toNat) = some (.int .i64 (rd l1 x5_2)) ∧ w'.cell? (ad230.add ((x5_2).toNat * 2)) = some (.int .i64 ((rd_T30 l0 x5_2).f0)) ∧ w'.cell? ⟨(ad230.add ((x5_2).toNat * 2)).block, (ad230.add ((x5_2).toNat * 2)).off + 1, none⟩ = some (.bool ((rd_T30 l0 x5_2).f1))) (ds := []) #[F,F,F,F,F,F,F,F,F,F] (by kernel_rfl) rfl rfl ⟨((HB.out.cell (World.block_lt_of_cell? w _ hw229_0)).trans hw229_0), ((HB.out.cell (World.block_lt_of_cell? w _ hw230_0)).trans hw230_0), ((HB.out.cell (World.block_lt_of_cell? w _ hw230_1)).trans hw230_1)⟩ (fun hHeld => ?_); refine with_tabW spec_SingOk.tab6 spec_SingOk.bits6 (fun HT_ HW_ => ?_)
          generalize wr.drew = w14 at HB hx229_0 hx230_0 hx230_1 hHeld ⊢
          refine pz 0 (some 22) #[T,F,F,F,F,F,F,F,F,F] (any_of HT_.out (by kernel_rfl)) (h := ?_)
          refine pz 1 (some 23) #[T,T,F,F,F,F,F,F,F,F] (any_of HT_.out (by kernel_rfl)) (h := ?_)
          refine pz 2 (some 24) #[T,T,T,F,F,F,F,F,F,F] (any_of HT_.out (by kernel_rfl)) (h := ?_)
          refine pz 4 (some 26) #[T,T,T,F,T,F,F,F,F,F] (any_of HT_.out (by kernel_rfl)) (h := ?_)
          refine pz 5 (some 27) #[T,T,T,F,T,T,F,F,F,F] (any_of HT_.out (by kernel_rfl)) (h := ?_)
          refine pz 6 (some 28) #[T,T,T,F,T,T,T,F,F,F] (any_of HT_.out (by kernel_rfl)) (h := ?_)
          refine tz hHeld 3 (some 25) #[T,T,T,T,T,T,T,F,F,F] (take_ofW HT_.out HW_.out (by kernel_rfl)) (h := ?_)
          refine tz hHeld 7 (some 29) #[T,T,T,T,T,T,T,T,F,F] (take_ofW HT_.out HW_.out (by kernel_rfl)) (h := ?_)
          refine one_ (i := 8) (N := some 30) #[T,T,T,T,T,T,T,T,T,F] rfl rfl (one_of HT_.out (by kernel_rfl)) (by decide) (fun K hK => ?_)
          refine goes_ Tryd.func102 (by kernel_rfl) rfl #[.int .i64 (rd l1 x5_2), .agg #[.int .i64 ((rd_T30 l0 x5_2).f0), .bool ((rd_T30 l0 x5_2).f1)]] (by rfl) rfl rfl (by (try simp only [List.map_toArray, List.map_cons, List.map_nil]); first | done | rfl | (simp only [List.length_drop, List.length_take]; rfl)) ?_
          with_reducible refine (spec_HexSyllable.calls k2 (rd l1 x5_2) ((rd_T30 l0 x5_2).f0) ((rd_T30 l0 x5_2).f1) t231 _ A12.out).mono ?_
          rintro e w15 ⟨rfl, hb⟩
          refine ⟨_, rfl, ?_⟩
          have n0_ := am (below_step (bu HB.out) hb)
          clear HB
          have HB := n0_
          clear n0_
          (try clear hb)
          (try clear hb2)
          (try clear hk)
          (try clear hi)
          refine hK.out _ _ ⟨((HB.out.cell (World.block_lt_of_cell? w _ hw229_0)).trans hw229_0), ((HB.out.cell (World.block_lt_of_cell? w _ hw230_0)).trans hw230_0), ((HB.out.cell (World.block_lt_of_cell? w _ hw230_1)).trans hw230_1)⟩ (fun hHeld => ?_)
          clear hK K
          refine norm_ (a' := ?_) ?_ ?_
          rotate_left
          ·show Act.put _ (some 30) _ = _
           simp only [Act.put, sA, sZ, sS, i64_w, i32_w]
           rfl
          refine pz 9 (some 31) #[T,T,T,T,T,T,T,T,T,T] (any_of HT_.out (by kernel_rfl)) (h := ?_)
          refine done_ (done_of HT_.out (by kernel_rfl)) ?_
          try go_wp2
          go_ret
          exact ⟨by first | rfl | (simp [errW_none, errW_some] <;> rfl) | (simp [*, errW_none, errW_some] <;> rfl), bu HB.out⟩
         ·rw [if_neg c13] at H
          have c13b0 : decide (t231 < 0) = false := decide_eq_false c13
          clear c13
          have H' := am H
          clear H
          try go_wp2
          have n0_ := am (below_drew1 HB.out)
          clear HB
          have HB := n0_
          clear n0_
          have p229 : 0 ≤ (x5_2 : Int) := od
          have q229 : x5_2 < (l1.length : Int) := od
          obtain ⟨ad229, e229, hx229_0⟩ := Kd.at_int HR1.out x5_2 p229 q229
          have hw229_0 := hx229_0
          cases e229
          replace hx229_0 := (HB.out.cell (World.block_lt_of_cell? w _ hx229_0)).trans hx229_0
          replace p229 := eq_true p229
          replace q229 := eq_true q229
          have p230 : 0 ≤ (x5_2 : Int) := od
          have q230 : x5_2 < (l0.length : Int) := od
          obtain ⟨ad230, e230, hx230_0, hx230_1⟩ := at_T30 HR0.out x5_2 p230 q230
          have hw230_1 := hx230_1
          have hw230_0 := hx230_0
          cases e230
          replace hx230_0 := (HB.out.cell (World.block_lt_of_cell? w _ hx230_0)).trans hx230_0
          replace hx230_1 := (HB.out.cell (World.block_lt_of_cell? w _ hx230_1)).trans hx230_1
          replace p230 := eq_true p230
          replace q230 := eq_true q230
          refine start_ (n := 10) (S := fun w' => w'.cell? (ad229.add (x5_2).toNat) = some (.int .i64 (rd l1 x5_2)) ∧ w'.cell? (ad230.add ((x5_2).toNat * 2)) = some (.int .i64 ((rd_T30 l0 x5_2).f0)) ∧ w'.cell? ⟨(ad230.add ((x5_2).toNat * 2)).block, (ad230.add ((x5_2).toNat * 2)).off + 1, none⟩ = some (.bool ((rd_T30 l0 x5_2).f1))) (ds := []) #[F,F,F,F,F,F,F,F,F,F] (by kernel_rfl) rfl rfl ⟨((HB.out.cell (World.block_lt_of_cell? w _ hw229_0)).trans hw229_0), ((HB.out.cell (World.block_lt_of_cell? w _ hw230_0)).trans hw230_0), ((HB.out.cell (World.block_lt_of_cell? w _ hw230_1)).trans hw230_1)⟩ (fun hHeld => ?_); refine with_tabW spec_SingOk.tab6 spec_SingOk.bits6 (fun HT_ HW_ => ?_)
          generalize wr.drew = w16 at HB hx229_0 hx230_0 hx230_1 hHeld ⊢
          refine pz 0 (some 22) #[T,F,F,F,F,F,F,F,F,F] (any_of HT_.out (by kernel_rfl)) (h := ?_)
          refine pz 1 (some 23) #[T,T,F,F,F,F,F,F,F,F] (any_of HT_.out (by kernel_rfl)) (h := ?_)
          refine pz 2 (some 24) #[T,T,T,F,F,F,F,F,F,F] (any_of HT_.out (by kernel_rfl)) (h := ?_)
          refine pz 4 (some 26) #[T,T,T,F,T,F,F,F,F,F] (any_of HT_.out (by kernel_rfl)) (h := ?_)
          refine pz 5 (some 27) #[T,T,T,F,T,T,F,F,F,F] (any_of HT_.out (by kernel_rfl)) (h := ?_)
          refine pz 6 (some 28) #[T,T,T,F,T,T,T,F,F,F] (any_of HT_.out (by kernel_rfl)) (h := ?_)
          refine tz hHeld 3 (some 25) #[T,T,T,T,T,T,T,F,F,F] (take_ofW HT_.out HW_.out (by kernel_rfl)) (h := ?_)
          refine tz hHeld 7 (some 29) #[T,T,T,T,T,T,T,T,F,F] (take_ofW HT_.out HW_.out (by kernel_rfl)) (h := ?_)
          refine one_ (i := 8) (N := some 30) #[T,T,T,T,T,T,T,T,T,F] rfl rfl (one_of HT_.out (by kernel_rfl)) (by decide) (fun K hK => ?_)
          refine goes_ Tryd.func102 (by kernel_rfl) rfl #[.int .i64 (rd l1 x5_2), .agg #[.int .i64 ((rd_T30 l0 x5_2).f0), .bool ((rd_T30 l0 x5_2).f1)]] (by rfl) rfl rfl (by (try simp only [List.map_toArray, List.map_cons, List.map_nil]); first | done | rfl | (simp only [List.length_drop, List.length_take]; rfl)) ?_
          with_reducible refine (spec_HexSyllable.calls k2 (rd l1 x5_2) ((rd_T30 l0 x5_2).f0) ((rd_T30 l0 x5_2).f1) t231 _ A12.out).mono ?_
          rintro e w17 ⟨rfl, hb⟩
          refine ⟨_, rfl, ?_⟩
          have n0_ := am (below_step (bu HB.out) hb)
          clear HB
          have HB := n0_
          clear n0_
          (try clear hb)
          (try clear hb2)
          (try clear hk)
          (try clear hi)
          refine hK.out _ _ ⟨((HB.out.cell (World.block_lt_of_cell? w _ hw229_0)).trans hw229_0), ((HB.out.cell (World.block_lt_of_cell? w _ hw230_0)).trans hw230_0), ((HB.out.cell (World.block_lt_of_cell? w _ hw230_1)).trans hw230_1)⟩ (fun hHeld => ?_)
          clear hK K
          refine norm_ (a' := ?_) ?_ ?_
          rotate_left
          ·show Act.put _ (some 30) _ = _
           simp only [Act.put, sA, sZ, sS, i64_w, i32_w]
           rfl
          refine pz 9 (some 31) #[T,T,T,T,T,T,T,T,T,T] (any_of HT_.out (by kernel_rfl)) (h := ?_)
          refine done_ (done_of HT_.out (by kernel_rfl)) ?_
          try go_wp2
          go_roundg k2
          case measure => have := HJ2.out; have := HK2.out; omega
          case rel => exact ⟨(wrap64 (x5_2 + 1)), (by first | rfl | (simp; done) | (simp [*]; done)), H', ⟨by have := HJ2.out; have := HK2.out; omega⟩, ⟨bu HB.out⟩⟩
        ·rw [if_neg c11] at H
         exact absurd H (by simp)
       ·rw [if_neg c10] at H
        exact absurd H (by simp)
      ·rw [if_neg c9] at H
       have c9b0 : decide (x5_2 < (l0.length : Int)) = false := decide_eq_false c9
       clear c9
       obtain rfl := Option.some.inj H
       go_wp2
       go_ret
       exact ⟨by first | rfl | (simp [errW_none, errW_some] <;> rfl) | (simp [*, errW_none, errW_some] <;> rfl), bu HB.out⟩

end Go.Proofs.YtcndojoghmblaaaDoor.SG
