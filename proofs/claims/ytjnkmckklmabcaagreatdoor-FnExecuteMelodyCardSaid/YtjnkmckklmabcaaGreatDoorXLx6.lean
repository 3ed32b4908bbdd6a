-- Made by this session's gprint.py out of the translation. Not trusted: Lean checks it. -- SLIM -- SQUEEZED
import Derived.Test.YtjnkmckklmabcaaGreatDoorXLx0
import Derived.Test.YtjnkmckklmabcaaGreatDoorXLx3
import Derived.Test.YtjnkmckklmabcaaGreatDoorXLx4
import Derived.Test.YtjnkmckklmabcaaGreatDoorXLx5
namespace Go.Proofs.YtjnkmckklmabcaaGreatDoor.XL
open Go.RowKit Go.Proofs.YtjnkmckklmabcaaGreatDoorW.PrintWords Go.Proofs.YtjnkmckklmabcaaGreatDoorW.PrintLast Go.Proofs.YtjnkmckklmabcaaGreatDoorW.PrintMore
attribute [local go_sem] max2_int min2_int max_two min_two max_three min_three max_four min_four   -- for this text's walks alone
set_option maxHeartbeats 8000000
set_option maxRecDepth 100000
set_option linter.unusedVariables false
set_option linter.unusedSimpArgs false


/-! ### the fewest mutations: plain lists -/
def upd (k c : Int) : Int := if k < 0 then c else if c < k then c else k
def chg (x y : Int) : Int := if x = y then 0 else 1
/-- the cost of x ahead of a row with its costs -/
def ahd (x : Int) (h cs : List Int) : Int := (List.zipWith (fun y c => c + chg x y) h cs).foldl upd (-1)
def rowCost : List (List Int) → List Int
 | [] => []
 | [h] => h.map fun _ => 0
 | h :: h' :: hs => h.map fun x => ahd x h' (rowCost (h' :: hs))
theorem rowCost_len : ∀ hs : List (List Int), (rowCost hs).length = (hs.headD []).length
 | [] => rfl
 | [h] => by simp [rowCost]
 | h :: h' :: hs => by simp [rowCost]
/-- the least of a fold -/
theorem upd_fold : ∀ (l : List Int) (k : Int), 0 ≤ k → (∀ c ∈ l, 0 ≤ c) → 0 ≤ l.foldl upd k ∧ l.foldl upd k ≤ k ∧ (∀ c ∈ l, l.foldl upd k ≤ c) ∧ (l.foldl upd k = k ∨ l.foldl upd k ∈ l)
 | [], k, hk, _ => ⟨hk, Int.le_refl _, fun c hc => absurd hc (List.not_mem_nil), .inl rfl⟩
 | a :: l, k, hk, h => by
  have ha := h a (List.mem_cons_self ..)
  have e : upd k a = if a < k then a else k := by unfold upd; rw [if_neg (by omega)]
  have hu : 0 ≤ upd k a := by rw [e]; split <;> omega
  obtain ⟨q0, q1, q2, q3⟩ := upd_fold l (upd k a) hu (fun c hc => h c (List.mem_cons_of_mem _ hc))
  have hle : upd k a ≤ k ∧ upd k a ≤ a := by rw [e]; split <;> omega
  refine ⟨q0, by rw [List.foldl_cons]; omega, fun c hc => ?_, ?_⟩
  ·rw [List.foldl_cons]
   rcases List.mem_cons.1 hc with rfl | hc
   ·omega
   ·exact q2 c hc
  ·rw [List.foldl_cons]
   rcases q3 with q3 | q3
   ·rw [q3, e]
    split
    ·exact .inr (List.mem_cons_self ..)
    ·exact .inl rfl
   ·exact .inr (List.mem_cons_of_mem _ q3)
theorem upd_min (l : List Int) (hl : l ≠ []) (h : ∀ c ∈ l, 0 ≤ c) : 0 ≤ l.foldl upd (-1) ∧ (∀ c ∈ l, l.foldl upd (-1) ≤ c) ∧ l.foldl upd (-1) ∈ l := by
 match l, hl with
 | a :: l, _ =>
  have ha := h a (List.mem_cons_self ..)
  have e : upd (-1) a = a := rfl
  obtain ⟨q0, q1, q2, q3⟩ := upd_fold l a ha (fun c hc => h c (List.mem_cons_of_mem _ hc))
  rw [List.foldl_cons, e]
  refine ⟨q0, fun c hc => ?_, ?_⟩
  ·rcases List.mem_cons.1 hc with rfl | hc
   ·exact q1
   ·exact q2 c hc
  ·rcases q3 with q3 | q3
   ·rw [q3]; exact List.mem_cons_self ..
   ·exact List.mem_cons_of_mem _ q3
theorem chg_bd (x y : Int) : 0 ≤ chg x y ∧ chg x y ≤ 1 := by unfold chg; split <;> omega
/-- what is least behind x -/
def lst (x : Int) : List (List Int) → Int
 | [] => 0
 | h :: hs => ahd x h (rowCost (h :: hs))
def Full (hs : List (List Int)) : Prop := ∀ h ∈ hs, h ≠ []
theorem Full.tail {h : List Int} {hs : List (List Int)} (f : Full (h :: hs)) : Full hs := fun x hx => f x (List.mem_cons_of_mem _ hx)
theorem rowCost_get : ∀ (h : List Int) (hs : List (List Int)), rowCost (h :: hs) = h.map (fun x => lst x hs)
 | h, [] => rfl
 | h, h' :: hs => rfl
theorem ahd_eq (x : Int) (h : List Int) (hs : List (List Int)) : ahd x h (rowCost (h :: hs)) = (h.map (fun y => lst y hs + chg x y)).foldl upd (-1) := by
 unfold ahd
 rw [rowCost_get]
 congr 1
 induction h with
 | nil => rfl
 | cons a h ih => simp [ih]
theorem lst_bd : ∀ (hs : List (List Int)), Full hs → ∀ x, 0 ≤ lst x hs
 | [], _, x => Int.le_refl _
 | h :: hs, f, x => by
  show 0 ≤ ahd x h (rowCost (h :: hs))
  rw [ahd_eq]
  refine (upd_min _ ?_ ?_).1
  ·intro e
   exact f h (List.mem_cons_self ..) (List.map_eq_nil_iff.mp e)
  ·intro c hc
   obtain ⟨y, _, rfl⟩ := List.mem_map.1 hc
   have := lst_bd hs f.tail y
   have := (chg_bd x y).1
   omega
theorem lst_min {h : List Int} {hs : List (List Int)} (f : Full (h :: hs)) (x : Int) : (∀ y ∈ h, lst x (h :: hs) ≤ lst y hs + chg x y) ∧ ∃ y ∈ h, lst x (h :: hs) = lst y hs + chg x y := by
 have hne : h.map (fun y => lst y hs + chg x y) ≠ [] := fun e => f h (List.mem_cons_self ..) (List.map_eq_nil_iff.mp e)
 have hnn : ∀ c ∈ h.map (fun y => lst y hs + chg x y), 0 ≤ c := by
  intro c hc
  obtain ⟨y, _, rfl⟩ := List.mem_map.1 hc
  have := lst_bd hs f.tail y
  have := (chg_bd x y).1
  omega
 obtain ⟨_, q1, q2⟩ := upd_min _ hne hnn
 have e : lst x (h :: hs) = (h.map (fun y => lst y hs + chg x y)).foldl upd (-1) := ahd_eq x h hs
 rw [e]
 refine ⟨fun y hy => q1 _ (List.mem_map.2 ⟨y, hy, rfl⟩), ?_⟩
 obtain ⟨y, hy, hy2⟩ := List.mem_map.1 q2
 exact ⟨y, hy, hy2.symm⟩
/-- each list fits its row -/
inductive Fits : List (List Int) → List Int → Prop
 | nil : Fits [] []
 | cons {h hs y ys} : y ∈ h → Fits hs ys → Fits (h :: hs) (y :: ys)
/-- the first of the least: (element, cost) -/
def pickS (f : Int → Int) : List Int → Int × Int → Int × Int
 | [], b => b
 | y :: h, b => pickS f h (if b.2 < 0 ∨ f y < b.2 then (y, f y) else b)
theorem pickS_fold (f : Int → Int) : ∀ (h : List Int) (b : Int × Int), 0 ≤ b.2 → (∀ y ∈ h, 0 ≤ f y) →
  (pickS f h b).2 ≤ b.2 ∧ 0 ≤ (pickS f h b).2 ∧ (∀ y ∈ h, (pickS f h b).2 ≤ f y) ∧ ((pickS f h b = b) ∨ ((pickS f h b).1 ∈ h ∧ f (pickS f h b).1 = (pickS f h b).2 ∧ (pickS f h b).2 < b.2))
 | [], b, hb, _ => ⟨Int.le_refl _, hb, fun y hy => absurd hy (List.not_mem_nil), .inl rfl⟩
 | a :: h, b, hb, hf => by
  have ha := hf a (List.mem_cons_self ..)
  by_cases hc : f a < b.2
  ·have e : pickS f (a :: h) b = pickS f h (a, f a) := by simp only [pickS]; rw [if_pos (.inr hc)]
   obtain ⟨q0, q1, q2, q3⟩ := pickS_fold f h (a, f a) ha (fun y hy => hf y (List.mem_cons_of_mem _ hy))
   rw [e]
   have q0' : (pickS f h (a, f a)).2 ≤ f a := q0
   refine ⟨by omega, q1, fun y hy => ?_, .inr ?_⟩
   ·rcases List.mem_cons.1 hy with rfl | hy
    ·exact q0
    ·exact q2 y hy
   ·rcases q3 with q3 | ⟨q3, q4, q5⟩
    ·rw [q3]
     exact ⟨List.mem_cons_self .., rfl, hc⟩
    ·exact ⟨List.mem_cons_of_mem _ q3, q4, by omega⟩
  have e : pickS f (a :: h) b = pickS f h b := by simp only [pickS]; rw [if_neg (by omega)]
  obtain ⟨q0, q1, q2, q3⟩ := pickS_fold f h b hb (fun y hy => hf y (List.mem_cons_of_mem _ hy))
  rw [e]
  refine ⟨q0, q1, fun y hy => ?_, ?_⟩
  ·rcases List.mem_cons.1 hy with rfl | hy
   ·omega
   ·exact q2 y hy
  ·rcases q3 with q3 | ⟨q3, q4, q5⟩
   ·exact .inl q3
   ·exact .inr ⟨List.mem_cons_of_mem _ q3, q4, q5⟩
theorem pickS_lt (f : Int → Int) : ∀ (h : List Int) (b : Int × Int), 0 ≤ b.2 → (∀ y ∈ h, 0 ≤ f y) → h.Pairwise (· < ·) → (∀ y ∈ h, b.1 < y) → ∀ y ∈ h, f y = (pickS f h b).2 → (pickS f h b).1 ≤ y
 | [], b, _, _, _, _, y, hy, _ => absurd hy (List.not_mem_nil)
 | a :: h, b, hb, hf, hs, hlt, y, hy, e => by
  have ha := hf a (List.mem_cons_self ..)
  have hs' := List.pairwise_cons.1 hs
  by_cases hc : f a < b.2
  ·have ee : pickS f (a :: h) b = pickS f h (a, f a) := by simp only [pickS]; rw [if_pos (.inr hc)]
   rw [ee] at e ⊢
   rcases List.mem_cons.1 hy with rfl | hy
   ·obtain ⟨q0, q1, q2, q3⟩ := pickS_fold f h (y, f y) ha (fun y hy => hf y (List.mem_cons_of_mem _ hy))
    rcases q3 with q3 | ⟨q3, q4, q5⟩
    ·rw [q3]; exact Int.le_refl _
    ·have q5' : (pickS f h (y, f y)).2 < f y := q5
     omega
   ·exact pickS_lt f h (a, f a) ha (fun y hy => hf y (List.mem_cons_of_mem _ hy)) hs'.2 hs'.1 y hy e
  have ee : pickS f (a :: h) b = pickS f h b := by simp only [pickS]; rw [if_neg (by omega)]
  rw [ee] at e ⊢
  rcases List.mem_cons.1 hy with rfl | hy
  ·obtain ⟨q0, q1, q2, q3⟩ := pickS_fold f h b hb (fun y hy => hf y (List.mem_cons_of_mem _ hy))
   rcases q3 with q3 | ⟨q3, q4, q5⟩
   ·rw [q3]
    have := hlt y (List.mem_cons_self ..)
    omega
   ·omega
  ·exact pickS_lt f h b hb (fun y hy => hf y (List.mem_cons_of_mem _ hy)) hs'.2 (fun y hy => hlt y (List.mem_cons_of_mem _ hy)) y hy e
/-- what the first tone costs, with or without a hexachord ahead -/
def pre (p : Option Int) (y : Int) : Int := match p with | none => 0 | some x => chg x y
def fst1 (p : Option Int) (h : List Int) (hs : List (List Int)) : Int × Int := pickS (fun y => lst y hs + pre p y) h (-1, -1)
def best : Option Int → List (List Int) → List Int
 | _, [] => []
 | p, h :: hs => (fst1 p h hs).1 :: best (some (fst1 p h hs).1) hs
theorem pre_bd (p : Option Int) (y : Int) : 0 ≤ pre p y ∧ pre p y ≤ 1 := by
 cases p with
 | none => exact ⟨Int.le_refl _, Int.zero_le_ofNat 1⟩
 | some x => exact chg_bd x y
theorem fst1_facts (p : Option Int) {h : List Int} {hs : List (List Int)} (f : Full (h :: hs)) (hp : h.Pairwise (· < ·)) :
  (fst1 p h hs).1 ∈ h ∧ lst (fst1 p h hs).1 hs + pre p (fst1 p h hs).1 = (fst1 p h hs).2 ∧ (∀ y ∈ h, (fst1 p h hs).2 ≤ lst y hs + pre p y) ∧ ∀ y ∈ h, lst y hs + pre p y = (fst1 p h hs).2 → (fst1 p h hs).1 ≤ y := by
 have hnn : ∀ y, 0 ≤ lst y hs + pre p y := fun y => by
  have := lst_bd hs f.tail y
  have := (pre_bd p y).1
  omega
 match h, f, hp with
 | [], f, _ => exact absurd rfl (f [] (List.mem_cons_self ..))
 | a :: h, f, hp =>
  have hp' := List.pairwise_cons.1 hp
  have e : fst1 p (a :: h) hs = pickS (fun y => lst y hs + pre p y) h (a, lst a hs + pre p a) := by unfold fst1; simp only [pickS]; rw [if_pos (.inl (by decide))]
  obtain ⟨q0, q1, q2, q3⟩ := pickS_fold (fun y => lst y hs + pre p y) h (a, lst a hs + pre p a) (hnn a) (fun y _ => hnn y)
  have q4 := pickS_lt (fun y => lst y hs + pre p y) h (a, lst a hs + pre p a) (hnn a) (fun y _ => hnn y) hp'.2 hp'.1
  rw [e]
  have q0' : (pickS (fun y => lst y hs + pre p y) h (a, lst a hs + pre p a)).2 ≤ lst a hs + pre p a := q0
  refine ⟨?_, ?_, fun y hy => ?_, fun y hy e2 => ?_⟩
  ·rcases q3 with q3 | ⟨q3, _, _⟩
   ·rw [q3]; exact List.mem_cons_self ..
   ·exact List.mem_cons_of_mem _ q3
  ·rcases q3 with q3 | ⟨_, q3, _⟩
   ·rw [q3]
   ·exact q3
  ·rcases List.mem_cons.1 hy with rfl | hy
   ·exact q0
   ·exact q2 y hy
  ·rcases List.mem_cons.1 hy with rfl | hy
   ·rcases q3 with q3 | ⟨_, _, q5⟩
    ·rw [q3]; exact Int.le_refl _
    ·have q5' : (pickS (fun y => lst y hs + pre p y) h (y, lst y hs + pre p y)).2 < lst y hs + pre p y := q5
     omega
   ·exact q4 y hy e2
def Asc (hs : List (List Int)) : Prop := ∀ h ∈ hs, h.Pairwise (· < ·)
theorem Asc.tail {h : List Int} {hs : List (List Int)} (f : Asc (h :: hs)) : Asc hs := fun x hx => f x (List.mem_cons_of_mem _ hx)
theorem best_fits : ∀ (hs : List (List Int)) (p : Option Int), Full hs → Asc hs → Fits hs (best p hs)
 | [], _, _, _ => .nil
 | h :: hs, p, f, a => .cons (fst1_facts p f (a h (List.mem_cons_self ..))).1 (best_fits hs _ f.tail a.tail)
theorem best_len : ∀ (hs : List (List Int)) (p : Option Int), (best p hs).length = hs.length
 | [], _ => rfl
 | h :: hs, p => by simp [best, best_len hs]
theorem fits_len : ∀ {hs : List (List Int)} {ys : List Int}, Fits hs ys → ys.length = hs.length
 | _, _, .nil => rfl
 | h :: hs, y :: ys, .cons hy r => by simp [fits_len r]
/-! one hexachord -/
/-! joined rows -/
/-! different ones -/
/-! ### the memory of SingBest -/
theorem at_rows {e : Nat} {w : World} {A : Option Addr} {n : Nat} {xs : List (List Int)} (h : Kd.C (Kd.slice e (Kd.int .i64)) w A n xs) (hn : n = xs.length) (i : Nat) (hi : i < xs.length) : ∃ ad A0 c0, A = some ad ∧ w.cell? (ad.add i) = some (.slice A0 xs[i].length c0) ∧ xs[i].length ≤ c0 ∧ (Kd.int .i64).C w A0 xs[i].length xs[i] := by
 obtain ⟨ad, c, e, _, hK, hc0⟩ := Kd.C_get h ([] : List Int) (i : Int) (by omega) (by omega)
 have hx : xs.getD (i : Int).toNat [] = xs[i] := by simp [List.getD_eq_getElem?_getD, hi]
 rw [hx] at hK
 have hc : ∀ j u, c[j]? = some u → w.cell? (ad.add (i * 1 + j)) = some u := hc0
 obtain ⟨A0, c0, rfl, l0, g0⟩ := hK
 exact ⟨ad, A0, c0, e, by have hq := hc 0 _ rfl; rwa [Nat.mul_one, Nat.add_zero] at hq, l0, g0⟩
theorem at_ints {w : World} {A : Option Addr} {n : Nat} {xs : List Int} (h : (Kd.int .i64).C w A n xs) (hn : n = xs.length) (i : Nat) (hi : i < xs.length) : ∃ ad, A = some ad ∧ w.cell? (ad.add i) = some (.int .i64 xs[i]) := by
 obtain ⟨ad, e, hc⟩ := Kd.at_int h (i : Int) (by omega) (by omega)
 refine ⟨ad, e, ?_⟩
 rw [Int.toNat_natCast] at hc
 rw [hc]
 simp [rd, List.getD_eq_getElem?_getD, hi]
/-- the rows of hexachords and of costs, in the state at block gs -/
def Sg (base : Nat) (w : World) (gs : Nat) (H C : List (List Int)) : Prop := ∃ (AH : Option Addr) (cH : Nat) (AC : Option Addr) (cC : Nat) (okH okC : Nat → Prop),
 w.heap[gs]? = some (.cells #[.slice AH H.length cH, .slice AC C.length cC] 95 (0, 0)) ∧ base ≤ gs ∧
 Kd.R (Kd.slice 3 (Kd.int .i64)) 28 w base okH (.slice AH H.length cH) H ∧ Kd.S (Kd.slice 3 (Kd.int .i64)) 28 w base okC (.slice AC C.length cC) C ∧ (∀ k, okH k → ¬ okC k)
theorem R_kt {α : Type} {d : Kd α} {e base : Nat} {ok : Nat → Prop} {w w1 : World} {v : Value} {xs : List α} (h : d.R e w base ok v xs) (hm : ∀ k, k < w.heap.size → (∃ (c : Array Value) (q : Nat), q ∈ e :: d.E ∧ w.heap[k]? = some (.cells c q (0, 0))) → w1.heap[k]? = w.heap[k]?) : d.R e w1 base ok v xs :=
 Kd.R_mono (Kd.R_move (Kd.R_bound h) (fun k hk => by
  obtain ⟨_, _, hlt, q, hq, c, hc⟩ := hk
  exact hm k hlt ⟨c, q, hq, hc⟩)) (fun _ hk => hk.1)
theorem S_kt {α : Type} {d : Kd α} {e base : Nat} {ok : Nat → Prop} {w w1 : World} {v : Value} {xs : List α} (h : Kd.S d e w base ok v xs) (hm : ∀ k, k < w.heap.size → (∃ (c : Array Value) (q : Nat), q ∈ e :: d.E ∧ w.heap[k]? = some (.cells c q (0, 0))) → w1.heap[k]? = w.heap[k]?) : Kd.S d e w1 base ok v xs := by
 obtain ⟨f, h⟩ := h
 exact ⟨f, R_kt h hm⟩
/-- what holds of blocks of the types of the rows and of the state is kept -/
def KT (w w1 : World) : Prop := w.heap.size ≤ w1.heap.size ∧ ∀ (k : Nat) (c : Array Value) (q : Nat), q = 3 ∨ q = 28 ∨ q = 95 → w.heap[k]? = some (.cells c q (0, 0)) → w1.heap[k]? = some (.cells c q (0, 0))
theorem KT.below {w w1 : World} (h : Below w.heap.size w w1) : KT w w1 := ⟨h.size, fun k c q _ hc => blk_below hc h⟩
theorem Sg.kt {base : Nat} {w w1 : World} {gs : Nat} {H C : List (List Int)} (h : Sg base w gs H C) (k : KT w w1) : Sg base w1 gs H C := by
 obtain ⟨AH, cH, AC, cC, okH, okC, h1, h2, h3, h4, h5⟩ := h
 have hm : ∀ b, b < w.heap.size → (∃ (c : Array Value) (q : Nat), q ∈ 28 :: (Kd.slice 3 (Kd.int .i64)).E ∧ w.heap[b]? = some (.cells c q (0, 0))) → w1.heap[b]? = w.heap[b]? := by
  rintro b _ ⟨c, q, hq, hc⟩
  rw [hc]
  refine k.2 b c q ?_ hc
  rcases List.mem_cons.1 hq with rfl | hq
  ·exact .inr (.inl rfl)
  ·rcases List.mem_cons.1 hq with rfl | hq
   ·exact .inl rfl
   ·exact absurd hq (List.not_mem_nil)
 exact ⟨AH, cH, AC, cC, okH, okC, k.2 gs _ _ (.inr (.inr rfl)) h1, h2, R_kt h3 hm, S_kt h4 hm, h5⟩
theorem Sg.below {base : Nat} {w w1 : World} {gs : Nat} {H C : List (List Int)} (h : Sg base w gs H C) (hb : Below w.heap.size w w1) : Sg base w1 gs H C := h.kt (KT.below hb)
theorem Sg.lt {base : Nat} {w : World} {gs : Nat} {H C : List (List Int)} (h : Sg base w gs H C) : gs < w.heap.size ∧ base ≤ gs := by
 obtain ⟨_, _, _, _, _, _, h1, h2, _⟩ := h
 exact ⟨blk_lt h1, h2⟩
/-- reading -/
theorem Sg.reads {base : Nat} {w : World} {gs : Nat} {H C : List (List Int)} (h : Sg base w gs H C) : ∃ AH cH AC cC, w.cell? ⟨gs, 0, none⟩ = some (.slice AH H.length cH) ∧ w.cell? ⟨gs, 1, none⟩ = some (.slice AC C.length cC) ∧ (∀ i (hi : i < H.length), ∃ ad A0 c0, AH = some ad ∧ w.cell? (ad.add i) = some (.slice A0 H[i].length c0) ∧ H[i].length ≤ c0 ∧ (Kd.int .i64).C w A0 H[i].length H[i]) ∧ (∀ i (hi : i < C.length), ∃ ad A0 c0, AC = some ad ∧ w.cell? (ad.add i) = some (.slice A0 C[i].length c0) ∧ C[i].length ≤ c0 ∧ (Kd.int .i64).C w A0 C[i].length C[i]) := by
 obtain ⟨AH, cH, AC, cC, okH, okC, h1, h2, h3, h4, h5⟩ := h
 exact ⟨AH, cH, AC, cC, blk_cell h1 0, blk_cell h1 1, fun i hi => at_rows (Kd.R_reads' h3).2.2 rfl i hi, fun i hi => at_rows (Kd.R_reads' (Kd.S_R h4)).2.2 rfl i hi⟩
theorem change_any (base gs : Nat) (H C : List (List Int)) (t i u j : Nat) (w : World) (h : Sg base w gs H C) (ht : t < H.length) (hi : i < H[t].length) (hu : u < H.length) (hj : j < H[u].length) :
  Calls Tryz.prog 70 #[.pointer (some ⟨gs, 0, none⟩), .agg #[.int .i64 (t : Int), .int .i64 (i : Int)], .agg #[.int .i64 (u : Int), .int .i64 (j : Int)]] w fun e w' => e = .returned (.int .i64 (chg H[t][i] H[u][j])) ∧ Below w.heap.size w w' := by
 have hu1 := Tryz.underlying92
 have hb1 := below_alloc (Below.refl w.heap.size w) (.cells #[.int .i64 (t : Int), .int .i64 (i : Int)] 92)
 have HB := am (below_alloc hb1 (.cells #[.int .i64 (u : Int), .int .i64 (j : Int)] 92))
 have hka := blk_alloc (blk_new w (.cells #[.int .i64 (t : Int), .int .i64 (i : Int)] 92)) (.cells #[.int .i64 (u : Int), .int .i64 (j : Int)] 92)
 have hkb := blk_new (w.alloc (.cells #[.int .i64 (t : Int), .int .i64 (i : Int)] 92)) (.cells #[.int .i64 (u : Int), .int .i64 (j : Int)] 92)
 have hsz : (w.alloc (.cells #[.int .i64 (t : Int), .int .i64 (i : Int)] 92)).heap.size = w.heap.size + 1 := by simp
 rw [hsz] at hkb
 have ka0 := blk_cell hka 0
 have ka1 := blk_cell hka 1
 have kb0 := blk_cell hkb 0
 have kb1 := blk_cell hkb 1
 simp only [List.getElem?_toArray, List.getElem?_cons_zero, List.getElem?_cons_succ] at ka0 ka1 kb0 kb1
 obtain ⟨AH, cH, AC, cC, q0, q1, qH, qC⟩ := (h.below HB.out).reads
 obtain ⟨ad, A1, c1, rfl, q2, q3, q4⟩ := qH t ht
 obtain ⟨ad', A2, c2, e2, q5, q6, q7⟩ := qH u hu
 obtain rfl : ad = ad' := by injection e2
 obtain ⟨ad1, rfl, q8⟩ := at_ints q4 rfl i hi
 obtain ⟨ad2, rfl, q9⟩ := at_ints q7 rfl j hj
 have p0 : 0 ≤ (t : Int) := by omega
 have p1 : (t : Int) < (H.length : Int) := by omega
 have p2 : 0 ≤ (i : Int) := by omega
 have p3 : (i : Int) < (H[t].length : Int) := by omega
 have p4 : 0 ≤ (u : Int) := by omega
 have p5 : (u : Int) < (H.length : Int) := by omega
 have p6 : 0 ≤ (j : Int) := by omega
 have p7 : (j : Int) < (H[u].length : Int) := by omega
 clear h hb1 hka hkb hsz qH qC q1 q3 q4 q6 q7 e2
 replace p0 := eq_true p0
 replace p1 := eq_true p1
 replace p2 := eq_true p2
 replace p3 := eq_true p3
 replace p4 := eq_true p4
 replace p5 := eq_true p5
 replace p6 := eq_true p6
 replace p7 := eq_true p7
 unfold chg
 by_cases he : H[t][i] = H[u][j]
 ·rw [if_pos he]
  have b0 : (H[t][i] == H[u][j]) = true := beq_iff_eq.mpr he
  have b1 : (H[t][i] != H[u][j]) = false := bne_eq_false_iff_eq.mpr he
  clear he
  go_enter Tryz.func70, Tryz.ntmps70
  go_wp2
  go_quiet (fail)
  go_wp2
  go_ret
  exact ⟨rfl, bu HB.out⟩
 rw [if_neg he]
 have b0 : (H[t][i] == H[u][j]) = false := beq_eq_false_iff_ne.mpr he
 have b1 : (H[t][i] != H[u][j]) = true := bne_iff_ne.mpr he
 clear he
 go_enter Tryz.func70, Tryz.ntmps70
 go_wp2
 go_quiet (fail)
 go_wp2
 go_ret
 exact ⟨rfl, bu HB.out⟩
theorem infoP : (Tryz.prog.info? 92).map (fun i => (i.zero, i.size, i.bytes)) = some (some (.agg #[.int .i64 0, .int .i64 0]), 2, 16) := by kernel_rfl
/-- the queue at block gq -/
def Qu (base : Nat) (w : World) (gq : Nat) (ok : Nat → Prop) (q : List S92) : Prop := ∃ vq, w.heap[gq]? = some (.cells #[vq] 136 (0, 0)) ∧ base ≤ gq ∧ Kd.Q k92 92 w base ok vq q
/-- only the queue's blocks were written -/
def KQ (w w1 : World) (gq : Nat) (ok : Nat → Prop) : Prop := Kept w w1 (fun k => k = gq ∨ (ok k ∧ ∃ c : Array Value, w.heap[k]? = some (.cells c 92 (0, 0))))
theorem kP_ne : ∀ q, q ∈ 92 :: k92.E → q ≠ 136 := by
 intro q hq
 rcases List.mem_cons.1 hq with rfl | hq
 ·decide
 ·exact absurd hq (List.not_mem_nil)
theorem KQ.kt {w w1 : World} {gq : Nat} {ok : Nat → Prop} (h : KQ w w1 gq ok) {v : Value} (hg : w.heap[gq]? = some (.cells #[v] 136 (0, 0))) : KT w w1 := by
 refine ⟨h.1, fun k c q hq hc => (h.2 k (blk_lt hc) ?_).trans hc⟩
 rintro (rfl | ⟨_, c', hc'⟩)
 ·rw [hg] at hc
  injection hc with hc
  injection hc with _ hc
  rcases hq with rfl | rfl | rfl <;> exact absurd hc (by decide)
 ·rw [hc'] at hc
  injection hc with hc
  injection hc with _ hc
  rcases hq with rfl | rfl | rfl <;> exact absurd hc (by decide)
theorem KQ.blk {w w1 : World} {gq : Nat} {ok : Nat → Prop} (h : KQ w w1 gq ok) {b : Nat} {o : Obj} (hb : w.heap[b]? = some o) (h1 : b ≠ gq) (h2 : ¬ ok b) : w1.heap[b]? = some o :=
 (h.2 b (blk_lt hb) (by rintro (h3 | ⟨h3, _⟩); exact h1 h3; exact h2 h3)).trans hb
theorem Qu.below {base : Nat} {w w1 : World} {gq : Nat} {ok : Nat → Prop} {q : List S92} (h : Qu base w gq ok q) (hb : Below w.heap.size w w1) : Qu base w1 gq ok q := by
 obtain ⟨v, h1, h2, h3⟩ := h
 exact ⟨v, blk_below h1 hb, h2, Kd.Q_below h3 hb⟩
theorem Qu.mono {base : Nat} {w : World} {gq : Nat} {ok ok' : Nat → Prop} {q : List S92} (h : Qu base w gq ok q) (hm : ∀ k, k < w.heap.size → ok k → ok' k) : Qu base w gq ok' q := by
 obtain ⟨v, h1, h2, h3⟩ := h
 exact ⟨v, h1, h2, Kd.Q_mono (Kd.Q_bound h3) (fun k hk => hm k hk.2.2.1 hk.1)⟩
theorem Qu.lt {base : Nat} {w : World} {gq : Nat} {ok : Nat → Prop} {q : List S92} (h : Qu base w gq ok q) : gq < w.heap.size ∧ base ≤ gq := by
 obtain ⟨v, h1, h2, h3⟩ := h
 exact ⟨blk_lt h1, h2⟩
theorem push_any (base gq : Nat) (ok : Nat → Prop) (q : List S92) (x y : Int) (w : World) (h : Qu base w gq ok q) (hf : ∀ k, w.heap.size ≤ k → ok k) (hb : base ≤ w.heap.size) (hl : q.length ≤ 1000) :
  Calls Tryz.prog 101 #[.pointer (some ⟨gq, 0, none⟩), .agg #[.int .i64 x, .int .i64 y]] w fun e w' => e = .returned (.tuple #[]) ∧ Qu base w' gq ok (q ++ [⟨x, y⟩]) ∧ KQ w w' gq ok ∧ Below base w w' := by
 have hu1 := Tryz.underlying92
 have hu2 := Tryz.underlying136
 obtain ⟨vq, h1, h2, h3⟩ := h
 obtain ⟨A, c, rfl, hc⟩ := Kd.Q_slice h3
 have HT := am (Kd.Q_typed h3)
 have HL := am (Kd.Q_lt h3)
 have HOK := am h3.1
 have HF := am hf
 have HBS := am hb
 have HLQ := am hl
 have HG := am h1
 have HGE := am h2
 have HO := am (Kd.Q_drew (Kd.Q_alloc h3 (.cells #[.int .i64 x, .int .i64 y] 92)))
 have HB := am (below_drew1 (below_alloc (Below.refl w.heap.size w) (.cells #[.int .i64 x, .int .i64 y] 92)))
 have HK := am (blk_drew (blk_alloc h1 (.cells #[.int .i64 x, .int .i64 y] 92)))
 have HZ := am (blk_drew (blk_new w (.cells #[.int .i64 x, .int .i64 y] 92)))
 clear h1 h2 h3 hf hb hl
 go_enter Tryz.func101, Tryz.ntmps101
 go_wp2_with fail
 refine start_ (n := 11) (S := fun w' => w'.cell? ⟨gq, 0, none⟩ = some (.slice A q.length c) ∧ w'.cell? ⟨w.heap.size, 0, none⟩ = some (.int .i64 x) ∧ w'.cell? ⟨w.heap.size, 1, none⟩ = some (.int .i64 y)) (ds := [10]) #[F,F,F,F,F,F,F,F,F,F,F] (by kernel_rfl) rfl rfl ⟨blk_cell HK.out 0, blk_cell HZ.out 0, blk_cell HZ.out 1⟩ (fun hHeld => ?_)
 generalize (w.alloc (.cells #[.int .i64 x, .int .i64 y] 92)).drew = w5 at HO HB HK HZ hHeld ⊢
 refine pz 0 (some 4) #[T,F,F,F,F,F,F,F,F,F,F] (by kernel_rfl) (h := ?_)
 refine pz 1 (some 5) #[T,T,F,F,F,F,F,F,F,F,F] (by kernel_rfl) (h := ?_)
 refine pz 2 (some 6) #[T,T,T,F,F,F,F,F,F,F,F] (by kernel_rfl) (h := ?_)
 refine pz 3 (some 7) #[T,T,T,T,F,F,F,F,F,F,F] (by kernel_rfl) (h := ?_)
 refine tz hHeld 4 (some 8) #[T,T,T,T,T,F,F,F,F,F,F] (by kernel_rfl) (h := ?_)
 refine tz hHeld 5 (some 9) #[T,T,T,T,T,T,F,F,F,F,F] (by kernel_rfl) (h := ?_)
 refine one_ (i := 6) (N := some 10) #[T,T,T,T,T,T,T,F,F,F,F] rfl rfl (by kernel_rfl) (by decide) (fun K hK => ?_)
 refine value_ (w1 := ?_) (v := ?_) (by rfl) rfl ?_ ?_
 rotate_left 2
 ·go_simp
  constructor
  ·rfl
  ·rfl
 refine hK.out _ _ ⟨blk_cell (blk_alloc HK.out _) 0, blk_cell (blk_alloc HZ.out _) 0, blk_cell (blk_alloc HZ.out _) 1⟩ (fun hHeld => ?_)
 clear hK K
 refine norm_ (a' := ?_) ?_ ?_
 rotate_left
 ·show Act.put _ (some 10) _ = _
  simp only [Act.put, sA, sZ, sS, i64_w, i32_w]
  rfl
 refine one_ (i := 7) (N := some 11) #[T,T,T,T,T,T,T,T,F,F,F] rfl rfl (by kernel_rfl) (by decide) (fun K hK => ?_)
 refine Kd.Q_append_step k92 (w0 := w) base (by rfl) (.tmp 8) (.tmp 10) 134 92 (.agg #[.int .i64 0, .int .i64 0]) 16 rfl Tryz.underlying134 infoP rfl (by decide) (by omega) (.slice A q.length c) q ⟨x, y⟩ [.int .i64 x, .int .i64 y] ok (fun _ => False) rfl rfl ?aP (fun _ hk => hk.elim) ?aF ?aO ?aB ?aS ?aL ?_
 (case aP => exact k92_mkM _ _ _ ⟨x, y⟩)
 (case aB => exact HB.out.mono HBS.out)
 (case aF => exact (fun k hk => HF.out k (Nat.le_trans (below_size HB.out) hk)))
 (case aO => exact HO.out)
 (case aS => exact (Nat.le_trans HBS.out (below_size HB.out)))
 (case aL => have := HLQ.out; omega)
 intro v1 w6 ho hb hg hat
 have nG : some gq ≠ (Value.slice A q.length c).ownBlock := Kd.Q_ne HO.out HK.out (by decide)
 have nZ : some w.heap.size ≠ (Value.slice A q.length c).ownBlock := fun e => by have := HL.out _ e.symm; omega
 have HK4 := am (blk_grown HK.out hg nG)
 have HZ4 := am (blk_grown HZ.out hg nZ)
 have HO4 := am ho
 have HB4 := am hb
 have HKe := am (Kept.of_grown (S := fun k => k = gq ∨ (ok k ∧ ∃ c : Array Value, w.heap[k]? = some (.cells c 92 (0, 0)))) hg (Kept.of_below HB.out _) (fun k hk => .inl (.inr ⟨HOK.out k hk, HT.out k hk⟩)))
 clear HK HZ HO HB nG nZ ho hb hg hat
 obtain ⟨A1, c1, rfl, _⟩ := Kd.Q_slice HO4.out
 refine hK.out _ _ ⟨blk_cell HK4.out 0, blk_cell HZ4.out 0, blk_cell HZ4.out 1⟩ (fun hHeld => ?_)
 clear hK K
 refine norm_ (a' := ?_) ?_ ?_
 rotate_left
 ·show Act.put _ (some 11) _ = _
  simp only [Act.put, sA, sZ, sS, i64_w, i32_w]
  rfl
 refine pz 8 (some 12) #[T,T,T,T,T,T,T,T,T,F,F] (by kernel_rfl) (h := ?_)
 refine pz 9 (some 13) #[T,T,T,T,T,T,T,T,T,T,F] (by kernel_rfl) (h := ?_)
 clear hHeld
 have q0 := blk_cell HK4.out 0
 have qf := fun i => blk_frozen HK4.out i
 refine last_ (i := 10) (N := none) #[T,T,T,T,T,T,T,T,T,T,T] rfl rfl (by kernel_rfl) (by decide) (fun K hK => ?_)
 refine skip_ (w1 := ?_) (by rfl) rfl ?_ ?_
 rotate_left
 ·go_simp
  rfl
 refine hK.out _ _ ?_
 clear hK K
 refine done_ (by kernel_rfl) ?_
 clear q0 qf
 go_wp2_with fail
 go_end0
 have hO := HO4.out
 rw [show (q ++ [(⟨x, y⟩ : S92)]).length = q.length + 1 by simp] at hO
 refine ⟨rfl, ⟨_, blk_put HK4.out 0 _ rfl, HGE.out, Kd.Q_set hO HK4.out kP_ne 0 _⟩, HKe.out.setCell (.inl (.inl rfl)) _, HB4.out.setCell HGE.out _⟩
theorem pad0 (ad : Addr) : ad.add (0 * 2) = ad := by
 rw [Nat.zero_mul]
 unfold Addr.add
 rfl
theorem pop_none (base gq : Nat) (ok : Nat → Prop) (w : World) (h : Qu base w gq ok []) :
  Calls Tryz.prog 102 #[.pointer (some ⟨gq, 0, none⟩)] w fun e w' => e = .returned (.tuple #[.agg #[.int .i64 0, .int .i64 0], .bool false]) ∧ Below w.heap.size w w' := by
 have hu1 := Tryz.underlying92
 have hu2 := Tryz.underlying136
 obtain ⟨vq, h1, h2, h3⟩ := h
 obtain ⟨A, c, rfl, hc⟩ := Kd.Q_slice h3
 have hk := blk_alloc (blk_alloc h1 (.cells #[.int .i64 0, .int .i64 0] 92)) (.cells #[.int .i64 0, .int .i64 0] 92)
 have ha := blk_alloc (blk_new w (.cells #[.int .i64 0, .int .i64 0] 92)) (.cells #[.int .i64 0, .int .i64 0] 92)
 have hz := blk_new (w.alloc (.cells #[.int .i64 0, .int .i64 0] 92)) (.cells #[.int .i64 0, .int .i64 0] 92)
 rw [show (w.alloc (.cells #[.int .i64 0, .int .i64 0] 92)).heap.size = w.heap.size + 1 by simp] at hz
 have HB := am (below_alloc (below_alloc (Below.refl w.heap.size w) (.cells #[.int .i64 0, .int .i64 0] 92)) (.cells #[.int .i64 0, .int .i64 0] 92))
 have HA := am ha
 have q0 := blk_cell hk 0
 have z0 := blk_cell hz 0
 have z1 := blk_cell hz 1
 have a0 := blk_cell ha 0
 have a1 := blk_cell ha 1
 have af := fun i => blk_frozen ha i
 simp only [List.getElem?_toArray, List.getElem?_cons_zero, List.getElem?_cons_succ, List.length_nil] at q0 z0 z1 a0 a1
 clear h1 h2 h3 hk ha hz
 go_enter Tryz.func102, Tryz.ntmps102
 go_wp2
 refine bodyPost_ret (results_ct rfl _ _ w.heap.size 92 #[.int .i64 0, .int .i64 0] (0, 0) _ rfl HA.out Tryz.underlying92 rfl (by kernel_rfl)) rfl ?_
 exact ⟨rfl, HB.out⟩
theorem pop_some (base gq : Nat) (ok : Nat → Prop) (p : S92) (q : List S92) (w : World) (h : Qu base w gq ok (p :: q)) (hb : base ≤ w.heap.size) :
  Calls Tryz.prog 102 #[.pointer (some ⟨gq, 0, none⟩)] w fun e w' => e = .returned (.tuple #[.agg #[.int .i64 p.f0, .int .i64 p.f1], .bool true]) ∧ Qu base w' gq ok q ∧ KQ w w' gq ok ∧ Below base w w' := by
 have hu1 := Tryz.underlying92
 have hu2 := Tryz.underlying136
 obtain ⟨vq, h1, h2, h3⟩ := h
 obtain ⟨A, c, rfl, hc⟩ := Kd.Q_slice h3
 simp only [List.length_cons] at h1 h3 hc
 have hgl := blk_lt h1
 have hk := blk_alloc (blk_alloc h1 (.cells #[.int .i64 0, .int .i64 0] 92)) (.cells #[.int .i64 0, .int .i64 0] 92)
 have ha := blk_alloc (blk_new w (.cells #[.int .i64 0, .int .i64 0] 92)) (.cells #[.int .i64 0, .int .i64 0] 92)
 have hz := blk_new (w.alloc (.cells #[.int .i64 0, .int .i64 0] 92)) (.cells #[.int .i64 0, .int .i64 0] 92)
 rw [show (w.alloc (.cells #[.int .i64 0, .int .i64 0] 92)).heap.size = w.heap.size + 1 by simp] at hz
 have hbl := below_alloc (below_alloc (Below.refl w.heap.size w) (.cells #[.int .i64 0, .int .i64 0] 92)) (.cells #[.int .i64 0, .int .i64 0] 92)
 have hO := Kd.Q_alloc (Kd.Q_alloc h3 (.cells #[.int .i64 0, .int .i64 0] 92)) (.cells #[.int .i64 0, .int .i64 0] 92)
 obtain ⟨ad, rfl, hx0, hx1⟩ := at_T92 (Kd.Q_reads' hO).2.2 0 (by decide) (by simp)
 have hx2 := pad0 ad
 simp only [rd_T92, Int.toNat_zero, List.getD_cons_zero, hx2] at hx0 hx1
 have hO2 := Kd.Q_drop (k := 1) hO (by simp)
 obtain ⟨i0, hi0, _, hsz, _⟩ := info_parts infoP
 have hcut := cut_from (P := Tryz.prog) 134 92 .i64 Tryz.underlying134 hi0 2 hsz (some ad) (q.length + 1) c 1 (by decide) (by omega)
 have e1 : (1 : Int).toNat = 1 := rfl
 rw [e1] at hcut
 obtain ⟨A1, hA1⟩ : ∃ A1, A1 = (if c = 1 then some ad else (some ad : Option Addr).map (·.add (1 * 2))) := ⟨_, rfl⟩
 have hO3 : Kd.Q k92 92 ((w.alloc (.cells #[.int .i64 0, .int .i64 0] 92)).alloc (.cells #[.int .i64 0, .int .i64 0] 92)) base ok (.slice A1 q.length (c - 1)) q := by
  rw [hA1]
  exact hO2
 rw [← hA1, Nat.add_sub_cancel] at hcut
 have hky := blk_alloc (blk_alloc h1 (.cells #[.int .i64 0, .int .i64 0] 92)) (.cells #[.int .i64 p.f0, .int .i64 p.f1] 92)
 have hay := blk_alloc (blk_new w (.cells #[.int .i64 0, .int .i64 0] 92)) (.cells #[.int .i64 p.f0, .int .i64 p.f1] 92)
 have hzy := blk_new (w.alloc (.cells #[.int .i64 0, .int .i64 0] 92)) (.cells #[.int .i64 p.f0, .int .i64 p.f1] 92)
 rw [show (w.alloc (.cells #[.int .i64 0, .int .i64 0] 92)).heap.size = w.heap.size + 1 by simp] at hzy
 have h3b := Kd.Q_mono (ok' := fun k => ok k ∧ k < w.heap.size) (Kd.Q_bound h3) (fun k hk => ⟨hk.1, hk.2.2.1⟩)
 have hO4 := Kd.Q_alloc (Kd.Q_alloc h3b (.cells #[.int .i64 0, .int .i64 0] 92)) (.cells #[.int .i64 p.f0, .int .i64 p.f1] 92)
 have hO5 : Kd.Q k92 92 ((w.alloc (.cells #[.int .i64 0, .int .i64 0] 92)).alloc (.cells #[.int .i64 p.f0, .int .i64 p.f1] 92)) base (fun k => ok k ∧ k < w.heap.size) (.slice A1 q.length (c - 1)) q := by
  rw [hA1]
  exact Kd.Q_drop (k := 1) hO4 (by simp)
 have hbly := below_alloc (below_alloc (Below.refl w.heap.size w) (.cells #[.int .i64 0, .int .i64 0] 92)) (.cells #[.int .i64 p.f0, .int .i64 p.f1] 92)
 have p0 : (0 : Int) < ((q.length + 1 : Nat) : Int) := by omega
 have p1 : ((q.length : Int) + 1 == 0) = false := by simp; omega
 have HB := am hbly
 have HA := am hay
 have HK := am hky
 have HZ := am hzy
 have HO := am hO5
 have q0y := blk_cell hky 0
 have qfy := fun i => blk_frozen hky i
 have z0y := blk_cell hzy 0
 have z1y := blk_cell hzy 1
 have a0y := blk_cell hay 0
 have a1y := blk_cell hay 1
 have afy := fun i => blk_frozen hay i
 simp only [List.getElem?_toArray, List.getElem?_cons_zero, List.getElem?_cons_succ] at q0y z0y z1y a0y a1y
 have HGE := am h2
 have HBS := am hb
 have hn1 : gq ≠ w.heap.size + 1 := by omega
 have hn2 : gq ≠ w.heap.size := by omega
 have hn3 : w.heap.size + 1 ≠ gq := by omega
 have hn4 : w.heap.size ≠ gq := by omega
 have q0 := blk_cell hk 0
 have qf := fun i => blk_frozen hk i
 have z0 := blk_cell hz 0
 have z1 := blk_cell hz 1
 have zf := fun i => blk_frozen hz i
 have a0 := blk_cell ha 0
 have a1 := blk_cell ha 1
 have af := fun i => blk_frozen ha i
 simp only [List.getElem?_toArray, List.getElem?_cons_zero, List.getElem?_cons_succ] at q0 z0 z1 a0 a1
 clear h1 h2 h3 h3b hk ha hz hky hay hzy hO hO2 hO3 hO4 hO5 hbl hbly hA1 e1 hx2 hb hc hi0 hsz hgl
 go_enter Tryz.func102, Tryz.ntmps102
 go_wp2
 refine bodyPost_ret (results_ct rfl _ _ w.heap.size 92 #[.int .i64 p.f0, .int .i64 p.f1] (0, 0) _ rfl (blk_put (cs := #[.int .i64 p.f0, .int .i64 0]) (blk_put (cs := #[.int .i64 0, .int .i64 0]) (blk_far (p := ⟨gq, 0, none⟩) HA.out hn4 _) 0 _ rfl) 1 _ rfl) Tryz.underlying92 rfl (by kernel_rfl)) rfl ?_
 refine ⟨rfl, ⟨.slice A1 q.length (c - 1), blk_far (p := ⟨w.heap.size, 1, none⟩) (blk_far (p := ⟨w.heap.size, 0, none⟩) (blk_put HK.out 0 _ rfl) hn2 _) hn2 _, HGE.out, ?_⟩, ?_, ?_⟩
 ·have hne : ∀ k, (ok k ∧ k < w.heap.size) → k ≠ w.heap.size := fun k hk => by omega
  exact Kd.Q_mono (Kd.Q_far (p := ⟨w.heap.size, 1, none⟩) (Kd.Q_far (p := ⟨w.heap.size, 0, none⟩) (Kd.Q_set HO.out HK.out kP_ne 0 _) hne _) hne _) (fun _ hk => hk.1)
 ·exact (((Kept.of_below HB.out _).setCell (.inl (.inl rfl)) _).setCell (.inr (Nat.le_refl _)) _).setCell (.inr (Nat.le_refl _)) _
 ·exact (((HB.out.mono HBS.out).setCell HGE.out _).setCell HBS.out _).setCell HBS.out _
theorem kI_ne (t : Nat) (ht : 3 ≠ t ∧ 28 ≠ t) : ∀ q, q ∈ 28 :: (Kd.slice 3 (Kd.int .i64)).E → q ≠ t := by
 intro q hq
 rcases List.mem_cons.1 hq with rfl | hq
 ·exact ht.2
 ·rcases List.mem_cons.1 hq with rfl | hq
  ·exact ht.1
  ·exact absurd hq (List.not_mem_nil)
/-- reading, and a store into a row of costs -/
theorem Sg.opens {base : Nat} {w : World} {gs : Nat} {H C : List (List Int)} (h : Sg base w gs H C) (hC : 0 < C.length) : ∃ (AH : Option Addr) (cH : Nat) (adc : Addr) (cC : Nat),
  w.cell? ⟨gs, 0, none⟩ = some (.slice AH H.length cH) ∧ w.cell? ⟨gs, 1, none⟩ = some (.slice (some adc) C.length cC) ∧
  (∀ i (hi : i < H.length), ∃ ad A0 c0, AH = some ad ∧ w.cell? (ad.add i) = some (.slice A0 H[i].length c0) ∧ H[i].length ≤ c0 ∧ (Kd.int .i64).C w A0 H[i].length H[i]) ∧
  (∀ t (ht : t < C.length), 0 < C[t].length → ∃ (g c0 : Nat), w.cell? (adc.add t) = some (.slice (some ⟨g, 0, none⟩) C[t].length c0) ∧ (∀ i (hi : i < C[t].length), w.cell? ⟨g, i, none⟩ = some (.int .i64 C[t][i])) ∧ (∃ cs : Array Value, w.heap[g]? = some (.cells cs 3 (0, 0))) ∧ base ≤ g ∧
   ∀ i (v : Int), i < C[t].length → Sg base (w.setCell ⟨g, i, none⟩ (.int .i64 v)) gs H (C.set t (C[t].set i v))) := by
 obtain ⟨AH, cH, AC, cC, okH, okC, h1, h2, h3, h4, h5⟩ := h
 obtain ⟨adc, _, _, rfl, _⟩ := at_rows (Kd.R_reads' (Kd.S_R h4)).2.2 rfl 0 hC
 refine ⟨AH, cH, adc, cC, blk_cell h1 0, blk_cell h1 1, fun i hi => at_rows (Kd.R_reads' h3).2.2 rfl i hi, fun t ht hr => ?_⟩
 obtain ⟨oki, c, hcl, hM, hcc, hoki, hback⟩ := Kd.S_borrow h4 ([] : List Int) (t : Int) (by omega) (by omega)
 have hx : C.getD (t : Int).toNat [] = C[t] := by simp [List.getD_eq_getElem?_getD, ht]
 rw [hx] at hM
 obtain ⟨v, rfl, hR⟩ := hM
 obtain ⟨A0, c0, rfl⟩ := Kd.R_slice hR
 obtain ⟨ad0, rfl, _⟩ := at_ints (Kd.R_reads' hR).2.2 rfl 0 hr
 obtain ⟨g, rfl⟩ := Kd.R_head hR
 have hog : (Value.slice (some ⟨g, 0, none⟩) C[t].length c0).ownBlock = some g := by simp [Value.ownBlock]
 obtain ⟨cs, hcs⟩ := Kd.R_typed hR g hog
 have hcell : w.cell? (adc.add t) = some (.slice (some ⟨g, 0, none⟩) C[t].length c0) := by
  have := hcc 0 _ rfl
  simpa [Kd.slice] using this
 refine ⟨g, c0, hcell, fun i hi => ?_, ⟨cs, hcs⟩, Kd.R_base hR g hog, fun i v hi => ?_⟩
 ·obtain ⟨ad1, e1, h6⟩ := at_ints (Kd.R_reads' hR).2.2 rfl i hi
  obtain rfl : (⟨g, 0, none⟩ : Addr) = ad1 := by injection e1
  rwa [add_plain] at h6
 ·obtain ⟨hR2, hg2⟩ := Kd.R_putg hR (i : Int) v
  rw [Int.toNat_natCast] at hR2 hg2
  have ho := hR.1 g hog
  have hgs : some gs ≠ some g := by
   intro e
   injection e with e
   subst e
   rw [hcs] at h1
   injection h1 with h1
   injection h1 with _ h1
   exact absurd h1 (by decide)
  have hS := hback (w1 := w.setCell ⟨g, i, none⟩ (.int .i64 v)) (row := some g) (x' := C[t].set i v) hg2 (fun k hk => by injection hk with hk; rw [← hk]; exact ho) ⟨.slice (some ⟨g, 0, none⟩) C[t].length c0, rfl, hR2⟩
  rw [Int.toNat_natCast] at hS
  refine ⟨AH, cH, some adc, cC, okH, okC, ?_, h2, Kd.R_grown h3 hg2 (fun k hk e => ?_), ?_, h5⟩
  ·rw [List.length_set]
   exact blk_grown h1 hg2 hgs
  ·injection e with e
   subst e
   exact h5 k hk (hoki k ho).1
  ·rw [List.length_set]
   exact hS
/-! ### ahead -/
theorem bbase {base : Nat} {w w1 w2 : World} (h : Below base w w1) (k : Below w1.heap.size w1 w2) (hb : base ≤ w.heap.size) : Below base w w2 := h.trans (k.mono (Nat.le_trans hb h.size))
theorem changes_any (base gs : Nat) (H C : List (List Int)) (t i u j : Nat) (h1 h2 : List Int) (y z : Int) (w : World) (h : Sg base w gs H C) (e1 : H[t]? = some h1) (e2 : H[u]? = some h2) (e3 : h1[i]? = some y) (e4 : h2[j]? = some z) (ui : Int) (hui : ui = (u : Int)) :
  Calls Tryz.prog 70 #[.pointer (some ⟨gs, 0, none⟩), .agg #[.int .i64 (t : Int), .int .i64 (i : Int)], .agg #[.int .i64 ui, .int .i64 (j : Int)]] w fun e w' => e = .returned (.int .i64 (chg y z)) ∧ Below w.heap.size w w' := by
 subst hui
 obtain ⟨q1, rfl⟩ := List.getElem?_eq_some_iff.1 e1
 obtain ⟨q2, rfl⟩ := List.getElem?_eq_some_iff.1 e2
 obtain ⟨q3, rfl⟩ := List.getElem?_eq_some_iff.1 e3
 obtain ⟨q4, rfl⟩ := List.getElem?_eq_some_iff.1 e4
 exact change_any base gs H C t i u j w h q1 q3 q2 q4
theorem Qu.set {base : Nat} {w : World} {gq : Nat} {ok : Nat → Prop} {q : List S92} (h : Qu base w gq ok q) {g : Nat} {cs : Array Value} (hg : w.heap[g]? = some (.cells cs 3 (0, 0))) (j : Nat) (u : Value) : Qu base (w.setCell ⟨g, j, none⟩ u) gq ok q := by
 obtain ⟨v, h1, h2, h3⟩ := h
 refine ⟨v, blk_far (p := ⟨g, j, none⟩) h1 (blk_ne h1 hg (by decide)) _, h2, Kd.Q_set h3 hg ?_ j u⟩
 intro q hq
 rcases List.mem_cons.1 hq with rfl | hq
 ·decide
 ·exact absurd hq (List.not_mem_nil)
/-- blocks of places that are none of the queue's are kept -/
def KP (w w1 : World) (ok : Nat → Prop) : Prop := ∀ (b : Nat) (c : Array Value), w.heap[b]? = some (.cells c 92 (0, 0)) → ¬ ok b → w1.heap[b]? = some (.cells c 92 (0, 0))
theorem KP.below {w w1 w2 : World} {ok : Nat → Prop} (h : KP w w1 ok) (hb : Below w1.heap.size w1 w2) : KP w w2 ok := fun b c h1 h2 => blk_below (h b c h1 h2) hb
theorem KP.push {w w1 w2 : World} {ok ok' : Nat → Prop} {gq : Nat} (h : KP w w1 ok) (hk : KQ w1 w2 gq ok') {v : Value} (hg : w1.heap[gq]? = some (.cells #[v] 136 (0, 0))) (ho : ∀ k, ok' k → ok k) : KP w w2 ok := fun b c h1 h2 =>
 hk.blk (h b c h1 h2) (blk_ne (h b c h1 h2) hg (by decide)) (fun h3 => h2 (ho b h3))
theorem KP.set {w w1 : World} {ok : Nat → Prop} (h : KP w w1 ok) {g : Nat} {cs : Array Value} (hg : w1.heap[g]? = some (.cells cs 3 (0, 0))) (j : Nat) (u : Value) : KP w (w1.setCell ⟨g, j, none⟩ u) ok := fun b c h1 h2 =>
 blk_far (p := ⟨g, j, none⟩) (h b c h1 h2) (blk_ne (h b c h1 h2) hg (by decide)) _
theorem ad_succ (a : Addr) (t : Nat) : a.add (t + 1) = ⟨a.block, a.off + (t + 1), none⟩ := by
 rw [Addr.add.eq_def, if_neg (by omega)]
def newR (h k : List Int) (x z : Int) : List Int := List.zipWith (fun y c => upd c (x + chg y z)) h k
def mixR (h k : List Int) (x z : Int) (i : Nat) : List Int := (newR h k x z).take i ++ k.drop i
theorem newR_len (h k : List Int) (x z : Int) (hl : h.length = k.length) : (newR h k x z).length = k.length := by unfold newR; rw [List.length_zipWith]; omega
theorem mixR_len (h k : List Int) (x z : Int) (hl : h.length = k.length) (i : Nat) : (mixR h k x z i).length = k.length := by
 unfold mixR
 rw [List.length_append, List.length_take, List.length_drop, newR_len h k x z hl]
 omega
theorem mixR_zero (h k : List Int) (x z : Int) : mixR h k x z 0 = k := by simp [mixR]
theorem mixR_all (h k : List Int) (x z : Int) (hl : h.length = k.length) : mixR h k x z k.length = newR h k x z := by
 unfold mixR
 rw [List.take_of_length_le (by rw [newR_len h k x z hl]; exact Nat.le_refl _), List.drop_eq_nil_of_le (Nat.le_refl _), List.append_nil]
theorem mixR_at (h k : List Int) (x z : Int) (hl : h.length = k.length) (i : Nat) (hi : i < k.length) (h2 : i < (mixR h k x z i).length) : (mixR h k x z i)[i] = k[i] := by
 have hlt : (List.take i (newR h k x z)).length = i := by rw [List.length_take, newR_len h k x z hl]; omega
 have e : (mixR h k x z i)[i]? = some k[i] := by
  unfold mixR
  rw [List.getElem?_append_right (by omega), hlt, Nat.sub_self, List.getElem?_drop, Nat.add_zero, List.getElem?_eq_getElem hi]
 rw [List.getElem?_eq_getElem h2] at e
 exact Option.some.inj e
theorem mixR_step (h k : List Int) (x z : Int) (hl : h.length = k.length) (i : Nat) (hi : i < k.length) (hh : i < h.length) : mixR h k x z (i + 1) = (mixR h k x z i).set i (upd k[i] (x + chg h[i] z)) := by
 have hn : i < (newR h k x z).length := by rw [newR_len h k x z hl]; exact hi
 have e : (newR h k x z)[i] = upd k[i] (x + chg h[i] z) := by simp [newR]
 unfold mixR
 rw [List.set_append_right _ _ (by rw [List.length_take]; omega), List.take_succ_eq_append_getElem hn, e, List.append_assoc]
 congr 1
 rw [List.length_take, Nat.min_eq_left (by omega), Nat.sub_self, List.drop_eq_getElem_cons hi, List.set_cons_zero]
 rfl
theorem set_same {α : Type} (l : List α) (i : Nat) (hi : i < l.length) : l.set i l[i] = l := List.set_getElem_self hi
def pus (t : Nat) (k : List Int) : Nat → List S92
 | 0 => []
 | i + 1 => pus t k i ++ (if k.getD i 0 < 0 then [⟨(t : Int), (i : Int)⟩] else [])
theorem pus_len (t : Nat) (k : List Int) : ∀ i, (pus t k i).length ≤ i
 | 0 => Nat.le_refl _
 | i + 1 => by
  have := pus_len t k i
  unfold pus
  rw [List.length_append]
  split <;> simp <;> omega
theorem ahead_any (base gs gq : Nat) (ok : Nat → Prop) (H C : List (List Int)) (q : List S92) (t j : Nat) (hr hc hr' hc' : List Int) (x z : Int) (w : World) (h : Sg base w gs H C) (hq : Qu base w gq ok q) (hf : ∀ k, w.heap.size ≤ k → ok k) (hb : base ≤ w.heap.size) (hl : q.length ≤ 500)
  (eH : H[t]? = some hr) (eC : C[t]? = some hc) (eH' : H[t + 1]? = some hr') (eC' : C[t + 1]? = some hc') (ez : hr'[j]? = some z) (ex : hc'[j]? = some x) (h0 : hr.length = hc.length) (h2 : hr.length ≤ 7) (h3 : 0 < hr.length) (hx0 : 0 ≤ x) (hx1 : x ≤ 1000) (hn : H.length ≤ 100) :
  Calls Tryz.prog 103 #[.pointer (some ⟨gs, 0, none⟩), .agg #[.int .i64 ((t : Int) + 1), .int .i64 (j : Int)], .pointer (some ⟨gq, 0, none⟩)] w fun e w' => e = .returned (.tuple #[]) ∧ Sg base w' gs H (C.set t (newR hr hc x z)) ∧ Qu base w' gq ok (q ++ pus t hc hc.length) ∧ KP w w' ok ∧ Below base w w' := by
 have hu1 := Tryz.underlying92
 have hu2 := Tryz.underlying95
 have HA := am (blk_new w (.cells #[.int .i64 ((t : Int) + 1), .int .i64 (j : Int)] 92))
 have hb0 := below_alloc (Below.refl w.heap.size w) (.cells #[.int .i64 ((t : Int) + 1), .int .i64 (j : Int)] 92)
 have HS := am (h.below hb0)
 have HQ := am ((hq.mono (ok' := fun k => ok k ∧ k ≠ w.heap.size) (fun k hk ho => ⟨ho, by omega⟩)).below hb0)
 have HB := am (hb0.mono hb)
 have HKP := am (KP.below (ok := ok) (fun _ _ h1 _ => h1 : KP w w ok) hb0)
 have HF := am hf
 have HBS := am hb
 have HLQ := am hl
 have HX := am (And.intro hx0 hx1)
 obtain ⟨ht, eHt⟩ := List.getElem?_eq_some_iff.1 eH
 have H0 := am h0
 have EH := am (And.intro eH (And.intro eC (And.intro eH' (And.intro eC' (And.intro ez ex)))))
 have a0 := blk_cell HA.out 0
 have a1 := blk_cell HA.out 1
 simp only [List.getElem?_toArray, List.getElem?_cons_zero, List.getElem?_cons_succ] at a0 a1
 obtain ⟨AH, cH, AC, cC, q0, q1, qH, qC⟩ := HS.out.reads
 obtain ⟨ad, A1, c1, rfl, q2, q3, q4⟩ := qH t ht
 rw [eHt] at q2
 have p0 : ((t : Int) + 1 == 0) = false := by simp; omega
 have p1 : 0 ≤ (t : Int) := by omega
 have p2 : (t : Int) < (H.length : Int) := by omega
 replace p1 := eq_true p1
 replace p2 := eq_true p2
 clear h hq hf hb hl hb0 q1 qH qC q3 q4 hx0 hx1 h0 eH eC eH' eC' ez ex eHt
 go_enter Tryz.func103, Tryz.ntmps103
 go_wp2
 go_quiet (fail)
 go_wp2
 go_loopg [23] hr.length (fun kq v23 w' => ∃ i : Nat, v23 = .int .i64 (i : Int) ∧ Aside0 (kq + i = hr.length) ∧ Aside0 (Sg base w' gs H (C.set t (mixR hr hc x z i))) ∧ Aside0 (Qu base w' gq (fun k => ok k ∧ k ≠ w.heap.size) (q ++ pus t hc i)) ∧ Aside0 (w'.heap[w.heap.size]? = some (.cells #[.int .i64 ((t : Int) + 1), .int .i64 (j : Int)] 92 (0, 0))) ∧ Aside0 (Below base w w') ∧ Aside0 (w.heap.size < w'.heap.size) ∧ Aside0 (KP w w' ok))
 case atStart =>
  obtain ⟨hct, eCt⟩ := List.getElem?_eq_some_iff.1 EH.out.2.1
  refine ⟨0, rfl, ⟨by omega⟩, ⟨?_⟩, ⟨?_⟩, ⟨blk_drewN HA.out _⟩, ⟨pw_below_drewN HB.out _⟩, ⟨blk_lt HA.out⟩, ⟨HKP.out.below (pw_below_drewN (Below.refl _ _) _)⟩⟩
  ·rw [mixR_zero, ← eCt, set_same _ _ hct]
   exact HS.out.below (pw_below_drewN (Below.refl _ _) _)
  ·simp only [pus, List.append_nil]
   exact HQ.out.below (pw_below_drewN (Below.refl _ _) _)
 case round =>
  obtain ⟨i, rfl, HI, HS1, HQ1, HA1, HB1, HL1, HKP1⟩ := hrel
  clear HA HS HQ HB HKP a0 a1 q0 q2
  by_cases hlt : i < hr.length
  ·obtain ⟨hct, eCt⟩ := List.getElem?_eq_some_iff.1 EH.out.2.1
   obtain ⟨hHt', eHt'⟩ := List.getElem?_eq_some_iff.1 EH.out.2.2.1
   obtain ⟨hCt', eCt'⟩ := List.getElem?_eq_some_iff.1 EH.out.2.2.2.1
   obtain ⟨hjr, ejr⟩ := List.getElem?_eq_some_iff.1 EH.out.2.2.2.2.1
   obtain ⟨hjc, ejc⟩ := List.getElem?_eq_some_iff.1 EH.out.2.2.2.2.2
   have hic : i < hc.length := by have := H0.out; omega
   have hb7 := below_alloc (Below.refl wr.heap.size wr) (.cells #[.int .i64 (t : Int), .int .i64 (i : Int)] 92)
   have HS2 := am ((HS1.out.below hb7).below (below_drew1 (Below.refl _ _)))
   have HQ2 := am (((HQ1.out.mono (ok' := fun k => (ok k ∧ k ≠ w.heap.size) ∧ k ≠ wr.heap.size) (fun k hk ho => ⟨ho, by omega⟩)).below hb7).below (below_drew1 (Below.refl _ _)))
   have HA2 := am (blk_drew (blk_below HA1.out hb7))
   have HZ2 := am (blk_drew (blk_new wr (.cells #[.int .i64 (t : Int), .int .i64 (i : Int)] 92)))
   have HB2 := am (bbase (bbase HB1.out hb7 HBS.out) (below_drew1 (Below.refl _ _)) HBS.out)
   have HKP2 := am ((HKP1.out.below hb7).below (below_drew1 (Below.refl _ _)))
   have HN := am (Nat.ne_of_lt HL1.out)
   have HL2 := am (show wr.heap.size < (wr.alloc (.cells #[.int .i64 (t : Int), .int .i64 (i : Int)] 92)).drew.heap.size from blk_lt HZ2.out)
   obtain ⟨AH1, cH1, adc, cC1, s0, s1, sH, sC⟩ := HS2.out.opens (by rw [List.length_set]; omega)
   obtain ⟨g2, c2, s2, s3, ⟨cs2, s4⟩, s5, s6⟩ := sC (t + 1) (by rw [List.length_set]; omega) (by rw [List.getElem_set_ne (by omega), eCt']; omega)
   have s7 := s3 j (by rw [List.getElem_set_ne (by omega), eCt']; omega)
   simp only [List.getElem_set_ne (show t ≠ t + 1 by omega), eCt', ejc, List.length_set] at s2 s7 s1
   rw [ad_succ] at s2
   have k40 := blk_cell HA1.out 0
   have k41 := blk_cell HA1.out 1
   simp only [List.getElem?_toArray, List.getElem?_cons_zero, List.getElem?_cons_succ] at k40 k41
   have p3 : (t : Int) + 1 - 1 = (t : Int) := by omega
   have p4 : 0 ≤ (t : Int) + 1 := by omega
   have p5 : (t : Int) + 1 < (C.length : Int) := by omega
   have p6 : 0 ≤ (j : Int) := by omega
   have p7 : (j : Int) < (hc'.length : Int) := by omega
   replace p4 := eq_true p4
   replace p5 := eq_true p5
   replace p6 := eq_true p6
   replace p7 := eq_true p7
   clear s0 s3 s4 s5 s6 sH sC hb7
   go_wp2
   refine start_ (n := 18) (S := fun w' => w'.cell? ⟨gs, 1, none⟩ = some (.slice (some adc) C.length cC1) ∧ w'.cell? ⟨w.heap.size, 0, none⟩ = some (.int .i64 ((t : Int) + 1)) ∧ w'.cell? ⟨w.heap.size, 1, none⟩ = some (.int .i64 (j : Int)) ∧ w'.cell? ⟨adc.block, adc.off + (t + 1), none⟩ = some (.slice (some ⟨g2, 0, none⟩) hc'.length c2) ∧ w'.cell? ⟨g2, j, none⟩ = some (.int .i64 x) ∧ w'.cell? ⟨wr.heap.size, 0, none⟩ = some (.int .i64 (t : Int)) ∧ w'.cell? ⟨wr.heap.size, 1, none⟩ = some (.int .i64 (i : Int))) (ds := []) #[F,F,F,F,F,F,F,F,F,F,F,F,F,F,F,F,F,F] (by kernel_rfl) rfl rfl ⟨s1, blk_cell HA2.out 0, blk_cell HA2.out 1, s2, s7, blk_cell HZ2.out 0, blk_cell HZ2.out 1⟩ (fun hHeld => ?_)
   clear s1 s2 s7
   generalize (wr.alloc (.cells #[.int .i64 (t : Int), .int .i64 (i : Int)] 92)).drew = wd at HS2 HQ2 HA2 HZ2 HB2 HL2 HKP2 hHeld ⊢
   refine pz 0 (some 31) #[T,F,F,F,F,F,F,F,F,F,F,F,F,F,F,F,F,F] (by kernel_rfl) (h := ?_)
   refine pz 1 (some 32) #[T,T,F,F,F,F,F,F,F,F,F,F,F,F,F,F,F,F] (by kernel_rfl) (h := ?_)
   refine pz 2 (some 33) #[T,T,T,F,F,F,F,F,F,F,F,F,F,F,F,F,F,F] (by kernel_rfl) (h := ?_)
   refine pz 4 (some 35) #[T,T,T,F,T,F,F,F,F,F,F,F,F,F,F,F,F,F] (by kernel_rfl) (h := ?_)
   refine pz 8 (some 39) #[T,T,T,F,T,F,F,F,T,F,F,F,F,F,F,F,F,F] (by kernel_rfl) (h := ?_)
   refine pz 12 (some 43) #[T,T,T,F,T,F,F,F,T,F,F,F,T,F,F,F,F,F] (by kernel_rfl) (h := ?_)
   refine tz hHeld 3 (some 34) #[T,T,T,T,T,F,F,F,T,F,F,F,T,F,F,F,F,F] (by kernel_rfl) (h := ?_)
   refine tz hHeld 5 (some 36) #[T,T,T,T,T,T,F,F,T,F,F,F,T,F,F,F,F,F] (by kernel_rfl) (h := ?_)
   refine pz 6 (some 37) #[T,T,T,T,T,T,T,F,T,F,F,F,T,F,F,F,F,F] (by kernel_rfl) (h := ?_)
   refine tz hHeld 7 (some 38) #[T,T,T,T,T,T,T,T,T,F,F,F,T,F,F,F,F,F] (by kernel_rfl) (h := ?_)
   refine tz hHeld 9 (some 40) #[T,T,T,T,T,T,T,T,T,T,F,F,T,F,F,F,F,F] (by kernel_rfl) (h := ?_)
   refine pz 10 (some 41) #[T,T,T,T,T,T,T,T,T,T,T,F,T,F,F,F,F,F] (by kernel_rfl) (h := ?_)
   refine tz hHeld 11 (some 42) #[T,T,T,T,T,T,T,T,T,T,T,T,T,F,F,F,F,F] (by kernel_rfl) (h := ?_)
   refine tz hHeld 13 (some 44) #[T,T,T,T,T,T,T,T,T,T,T,T,T,T,F,F,F,F] (by kernel_rfl) (h := ?_)
   refine tz hHeld 14 (some 45) #[T,T,T,T,T,T,T,T,T,T,T,T,T,T,T,F,F,F] (by kernel_rfl) (h := ?_)
   refine one_ (i := 15) (N := some 46) #[T,T,T,T,T,T,T,T,T,T,T,T,T,T,T,T,F,F] rfl rfl (by kernel_rfl) (by decide) (fun K hK => ?_)
   refine goes_ Tryz.func70 (by kernel_rfl) rfl #[.pointer (some ⟨gs, 0, none⟩), .agg #[.int .i64 (t : Int), .int .i64 (i : Int)], .agg #[.int .i64 ((t : Int) + 1), .int .i64 (j : Int)]] (by rfl) rfl rfl (by (try simp only [mA, mC, mN]); first | done | rfl) ?_
   with_reducible refine (changes_any base gs H _ t i (t + 1) j hr hr' _ z _ HS2.out EH.out.1 EH.out.2.2.1 (List.getElem?_eq_getElem hlt) EH.out.2.2.2.2.1 ((t : Int) + 1) (by omega)).mono ?_
   rintro e we ⟨rfl, hb⟩
   refine ⟨_, rfl, ?_⟩
   have HS3 := am (HS2.out.below hb)
   have HQ3 := am (HQ2.out.below hb)
   have HA3 := am (blk_below HA2.out hb)
   have HZ3 := am (blk_below HZ2.out hb)
   have HB3 := am (bbase HB2.out hb HBS.out)
   have HL3 := am (Nat.lt_of_lt_of_le HL2.out hb.size)
   have HC3 := am hb
   have HKP3 := am (HKP2.out.below hb)
   clear HKP2 HS2 HQ2 HA2 HZ2 HB2 HL2 hb
   refine hK.out _ _ ⟨pw_cell_below HC3.out hHeld.1, blk_cell HA3.out 0, blk_cell HA3.out 1, pw_cell_below HC3.out hHeld.2.2.2.1, pw_cell_below HC3.out hHeld.2.2.2.2.1, blk_cell HZ3.out 0, blk_cell HZ3.out 1⟩ (fun hHeld => ?_)
   clear hK K
   refine norm_ (a' := ?_) ?_ ?_
   rotate_left
   ·show Act.put _ (some 46) _ = _
    simp only [Act.put, sA, sZ, sS, i64_w, i32_w]
    rfl
   refine pz 16 (some 47) #[T,T,T,T,T,T,T,T,T,T,T,T,T,T,T,T,T,F] (by kernel_rfl) (h := ?_)
   refine pz 17 (some 8) #[T,T,T,T,T,T,T,T,T,T,T,T,T,T,T,T,T,T] (by kernel_rfl) (h := ?_)
   refine done_ (by kernel_rfl) ?_
   clear hHeld HC3
   obtain ⟨c, hcE⟩ : ∃ c, c = x + chg hr[i] z := ⟨_, rfl⟩
   have hcb := chg_bd hr[i] z
   have hxb := HX.out
   rw [show wrap64 (x + chg hr[i] z) = c by rw [← hcE]; unfold wrap64; omega]
   have HCE := am (show c = x + chg hr[i] z ∧ 0 ≤ c by omega)
   obtain ⟨kn, hkn⟩ : ∃ kn, kn = hc[i] := ⟨_, rfl⟩
   have HKN := am hkn
   obtain ⟨AH2, cH2, adc2, cC2, s0, s1, sH, sC⟩ := HS3.out.opens (by rw [List.length_set]; omega)
   obtain ⟨g3, c3, s2, s3, s4, s5, s6⟩ := sC t (by rw [List.length_set]; omega) (by rw [List.getElem_set_self, mixR_len hr hc x z H0.out]; omega)
   have s7 := s3 i (by rw [List.getElem_set_self, mixR_len hr hc x z H0.out]; omega)
   simp only [List.getElem_set_self, mixR_len hr hc x z H0.out, List.length_set, mixR_at hr hc x z H0.out i hic] at s1 s2 s7
   rw [← hkn] at s7
   have k70 := blk_cell HZ3.out 0
   have k71 := blk_cell HZ3.out 1
   simp only [List.getElem?_toArray, List.getElem?_cons_zero, List.getElem?_cons_succ] at k70 k71
   have p8 : 0 ≤ (t : Int) := by omega
   have p9 : (t : Int) < (C.length : Int) := by omega
   have p10 : 0 ≤ (i : Int) := by omega
   have p11 : (i : Int) < (hc.length : Int) := by omega
   replace p8 := eq_true p8
   replace p9 := eq_true p9
   replace p10 := eq_true p10
   replace p11 := eq_true p11
   clear s0 s3 s4 s5 s6 sH sC hkn hcE hcb hxb p3 p4 p5 p6 p7 k40 k41
   go_wp2_with fail
   go_quiet (fail)
   by_cases hk : kn < 0
   ·have b0 : decide (kn < 0) = true := decide_eq_true hk
    have HU := am (show upd kn c = c by unfold upd; rw [if_pos hk])
    have HPU := am (show pus t hc (i + 1) = pus t hc i ++ [⟨(t : Int), (i : Int)⟩] by simp only [pus]; rw [show hc.getD i 0 = hc[i] by simp [List.getD_eq_getElem?_getD, hic], ← HKN.out, if_pos hk])
    clear hk
    go_wp2_with fail
    refine (push_any base gq (fun k => (ok k ∧ k ≠ w.heap.size) ∧ k ≠ wr.heap.size) (q ++ pus t hc i) (t : Int) (i : Int) _ (HQ3.out.below (pw_below_drewN (Below.refl _ _) nq)) (fun k hk => by
     have h4 : we.heap.size ≤ k := hk
     have h5 := HL3.out
     have h6 := HL1.out
     exact ⟨⟨HF.out k (by omega), by omega⟩, by omega⟩) (by
     have h4 : base ≤ we.heap.size := by
      have h5 := HL3.out
      have h6 := HL1.out
      have h7 := HBS.out
      omega
     exact h4) (by rw [List.length_append]; have := pus_len t hc i; have := HLQ.out; have := H0.out; omega)).mono ?_
    rintro e w6 ⟨rfl, hq6, hk6, hb6⟩
    obtain ⟨vq, hgq, _⟩ := HQ3.out
    have HS6 := am ((HS3.out.below (pw_below_drewN (Below.refl _ _) nq)).kt (hk6.kt (blk_drewN hgq nq)))
    have HQ6 := am (hq6.mono (ok' := fun k => ok k ∧ k ≠ w.heap.size) (fun _ _ hk => hk.1))
    have HA6 := am (hk6.blk (blk_drewN HA3.out nq) (blk_ne (w := we) HA3.out hgq (by decide)) (fun h => h.1.2 rfl))
    have HZ6 := am (hk6.blk (blk_drewN HZ3.out nq) (blk_ne (w := we) HZ3.out hgq (by decide)) (fun h => h.2 rfl))
    have HB6 := am ((bbase HB3.out (pw_below_drewN (Below.refl _ _) nq) HBS.out).trans hb6)
    have HL6 := am (show wr.heap.size < w6.heap.size from Nat.lt_of_lt_of_le HL3.out hk6.1)
    have HKP6 := am ((HKP3.out.below (pw_below_drewN (Below.refl _ _) nq)).push hk6 (blk_drewN hgq nq) (fun _ h => h.1.1))
    rw [List.append_assoc, ← HPU.out] at HQ6
    clear hq6 hk6 hb6 hgq HKP3 HS3 HQ3 HA3 HZ3 HB3 s1 s2 s7 k70 k71 HL3
    go_wp2_with fail
    obtain ⟨AH3, cH3, adc3, cC3, s0, s1, sH, sC⟩ := (HS6.out.below (below_drew1 (Below.refl _ _))).opens (by rw [List.length_set]; omega)
    obtain ⟨g4, c4, s2, s3, ⟨cs4, s4⟩, s5, s6⟩ := sC t (by rw [List.length_set]; omega) (by rw [List.getElem_set_self, mixR_len hr hc x z H0.out]; omega)
    have s7 := s3 i (by rw [List.getElem_set_self, mixR_len hr hc x z H0.out]; omega)
    have s8 := s6 i c (by rw [List.getElem_set_self, mixR_len hr hc x z H0.out]; omega)
    simp only [List.getElem_set_self, mixR_len hr hc x z H0.out, List.length_set, List.set_set] at s1 s2 s8
    have S8 := am s8
    have S4 := am s4
    have S5 := am s5
    have S7 := am s7
    clear s0 s3 s4 s5 s6 s7 s8 sH sC
    refine start_ (n := 13) (S := fun w' => w'.cell? ⟨gs, 1, none⟩ = some (.slice (some adc3) C.length cC3) ∧ w'.cell? (adc3.add t) = some (.slice (some ⟨g4, 0, none⟩) hc.length c4) ∧ w'.cell? ⟨wr.heap.size, 0, none⟩ = some (.int .i64 (t : Int)) ∧ w'.cell? ⟨wr.heap.size, 1, none⟩ = some (.int .i64 (i : Int))) (ds := [12]) #[F,F,F,F,F,F,F,F,F,F,F,F,F] (by kernel_rfl) rfl rfl ⟨s1, s2, blk_cell (blk_drew HZ6.out) 0, blk_cell (blk_drew HZ6.out) 1⟩ (fun hHeld => ?_)
    clear s1 s2
    have HQ7 := am (HQ6.out.below (below_drew1 (Below.refl _ _)))
    have HA7 := am (blk_drew HA6.out)
    have HB7 := am (bbase HB6.out (below_drew1 (Below.refl _ _)) HBS.out)
    have HKP7 := am (HKP6.out.below (below_drew1 (Below.refl _ _)))
    have HL7 := am (show w.heap.size < w6.drew.heap.size from Nat.lt_trans HL1.out HL6.out)
    clear HQ6 HA6 HB6 HZ6 HS6 HL6 HKP6
    generalize w6.drew = wd at HQ7 HA7 HB7 HL7 HKP7 S8 S4 S7 hHeld ⊢
    refine pz 0 (some 72) #[T,F,F,F,F,F,F,F,F,F,F,F,F] (by kernel_rfl) (h := ?_)
    refine pz 1 (some 73) #[T,T,F,F,F,F,F,F,F,F,F,F,F] (by kernel_rfl) (h := ?_)
    refine pz 2 (some 74) #[T,T,T,F,F,F,F,F,F,F,F,F,F] (by kernel_rfl) (h := ?_)
    refine pz 4 (some 76) #[T,T,T,F,T,F,F,F,F,F,F,F,F] (by kernel_rfl) (h := ?_)
    refine pz 8 (some 80) #[T,T,T,F,T,F,F,F,T,F,F,F,F] (by kernel_rfl) (h := ?_)
    refine pz 10 (some 82) #[T,T,T,F,T,F,F,F,T,F,T,F,F] (by kernel_rfl) (h := ?_)
    refine tz hHeld 3 (some 75) #[T,T,T,T,T,F,F,F,T,F,T,F,F] (by kernel_rfl) (h := ?_)
    refine tz hHeld 5 (some 77) #[T,T,T,T,T,T,F,F,T,F,T,F,F] (by kernel_rfl) (h := ?_)
    refine pz 6 (some 78) #[T,T,T,T,T,T,T,F,T,F,T,F,F] (by kernel_rfl) (h := ?_)
    refine tz hHeld 7 (some 79) #[T,T,T,T,T,T,T,T,T,F,T,F,F] (by kernel_rfl) (h := ?_)
    refine tz hHeld 9 (some 81) #[T,T,T,T,T,T,T,T,T,T,T,F,F] (by kernel_rfl) (h := ?_)
    refine pz 11 (some 83) #[T,T,T,T,T,T,T,T,T,T,T,T,F] (by kernel_rfl) (h := ?_)
    clear hHeld
    have q0 := S7.out
    have qf := fun i => blk_frozen S4.out i
    refine last_ (i := 12) (N := none) #[T,T,T,T,T,T,T,T,T,T,T,T,T] rfl rfl (by kernel_rfl) (by decide) (fun K hK => ?_)
    refine skip_ (w1 := ?_) (by rfl) rfl ?_ ?_
    rotate_left
    ·go_simp
     rfl
    refine hK.out _ _ ?_
    clear hK K
    refine done_ (by kernel_rfl) ?_
    clear q0 qf
    go_wp2_with fail
    go_roundg (hr.length - (i + 1))
    case measure => have := HI.out; omega
    case rel =>
     have hne1 : w.heap.size ≠ g4 := blk_ne HA7.out S4.out (by decide)
     refine ⟨i + 1, by simp, ⟨by have := HI.out; omega⟩, ⟨?_⟩, ⟨?_⟩, ⟨blk_far (p := ⟨g4, i, none⟩) HA7.out hne1 _⟩, ⟨HB7.out.setCell S5.out _⟩, ⟨by simpa [World.setCell] using HL7.out⟩, ⟨HKP7.out.set S4.out i _⟩⟩
     ·rw [mixR_step hr hc x z H0.out i hic hlt, ← HCE.out.1, ← HKN.out, HU.out]
      exact S8.out
     ·exact HQ7.out.set S4.out i _
   have b0 : decide (kn < 0) = false := decide_eq_false hk
   have HPU := am (show pus t hc (i + 1) = pus t hc i by simp only [pus]; rw [show hc.getD i 0 = hc[i] by simp [List.getD_eq_getElem?_getD, hic], ← HKN.out, if_neg hk, List.append_nil])
   have HS6 := am (HS3.out.below (pw_below_drewN (Below.refl _ _) nq))
   have HQ6 := am ((HQ3.out.mono (ok' := fun k => ok k ∧ k ≠ w.heap.size) (fun _ _ hk => hk.1)).below (pw_below_drewN (Below.refl _ _) nq))
   have HA6 := am (blk_drewN HA3.out nq)
   have HZ6 := am (blk_drewN HZ3.out nq)
   have HB6 := am (bbase HB3.out (pw_below_drewN (Below.refl _ _) nq) HBS.out)
   have HL6 := am (show wr.heap.size < (we.drewN nq).heap.size from HL3.out)
   have HKP6 := am (HKP3.out.below (pw_below_drewN (Below.refl _ _) nq))
   rw [← HPU.out] at HQ6
   clear HKP3 HS3 HQ3 HA3 HZ3 HB3 s1 s2 s7 k70 k71 HL3
   generalize we.drewN nq = w6 at HS6 HQ6 HA6 HZ6 HB6 HL6 HKP6 ⊢
   have HKG := am hk
   clear hk
   by_cases hcm : c < kn
   ·have b1 : decide (c < kn) = true := decide_eq_true hcm
    have HU := am (show upd kn c = c by unfold upd; rw [if_neg HKG.out, if_pos hcm])
    clear hcm
    go_wp2_with fail
    obtain ⟨AH3, cH3, adc3, cC3, s0, s1, sH, sC⟩ := (HS6.out.below (below_drew1 (Below.refl _ _))).opens (by rw [List.length_set]; omega)
    obtain ⟨g4, c4, s2, s3, ⟨cs4, s4⟩, s5, s6⟩ := sC t (by rw [List.length_set]; omega) (by rw [List.getElem_set_self, mixR_len hr hc x z H0.out]; omega)
    have s7 := s3 i (by rw [List.getElem_set_self, mixR_len hr hc x z H0.out]; omega)
    have s8 := s6 i c (by rw [List.getElem_set_self, mixR_len hr hc x z H0.out]; omega)
    simp only [List.getElem_set_self, mixR_len hr hc x z H0.out, List.length_set, List.set_set] at s1 s2 s8
    have S8 := am s8
    have S4 := am s4
    have S5 := am s5
    have S7 := am s7
    clear s0 s3 s4 s5 s6 s7 s8 sH sC
    refine start_ (n := 13) (S := fun w' => w'.cell? ⟨gs, 1, none⟩ = some (.slice (some adc3) C.length cC3) ∧ w'.cell? (adc3.add t) = some (.slice (some ⟨g4, 0, none⟩) hc.length c4) ∧ w'.cell? ⟨wr.heap.size, 0, none⟩ = some (.int .i64 (t : Int)) ∧ w'.cell? ⟨wr.heap.size, 1, none⟩ = some (.int .i64 (i : Int))) (ds := [12]) #[F,F,F,F,F,F,F,F,F,F,F,F,F] (by kernel_rfl) rfl rfl ⟨s1, s2, blk_cell (blk_drew HZ6.out) 0, blk_cell (blk_drew HZ6.out) 1⟩ (fun hHeld => ?_)
    clear s1 s2
    have HQ7 := am (HQ6.out.below (below_drew1 (Below.refl _ _)))
    have HA7 := am (blk_drew HA6.out)
    have HB7 := am (bbase HB6.out (below_drew1 (Below.refl _ _)) HBS.out)
    have HKP7 := am (HKP6.out.below (below_drew1 (Below.refl _ _)))
    have HL7 := am (show w.heap.size < w6.drew.heap.size from Nat.lt_trans HL1.out HL6.out)
    clear HQ6 HA6 HB6 HZ6 HS6 HL6 HKP6
    generalize w6.drew = wd at HQ7 HA7 HB7 HL7 HKP7 S8 S4 S7 hHeld ⊢
    refine pz 0 (some 72) #[T,F,F,F,F,F,F,F,F,F,F,F,F] (by kernel_rfl) (h := ?_)
    refine pz 1 (some 73) #[T,T,F,F,F,F,F,F,F,F,F,F,F] (by kernel_rfl) (h := ?_)
    refine pz 2 (some 74) #[T,T,T,F,F,F,F,F,F,F,F,F,F] (by kernel_rfl) (h := ?_)
    refine pz 4 (some 76) #[T,T,T,F,T,F,F,F,F,F,F,F,F] (by kernel_rfl) (h := ?_)
    refine pz 8 (some 80) #[T,T,T,F,T,F,F,F,T,F,F,F,F] (by kernel_rfl) (h := ?_)
    refine pz 10 (some 82) #[T,T,T,F,T,F,F,F,T,F,T,F,F] (by kernel_rfl) (h := ?_)
    refine tz hHeld 3 (some 75) #[T,T,T,T,T,F,F,F,T,F,T,F,F] (by kernel_rfl) (h := ?_)
    refine tz hHeld 5 (some 77) #[T,T,T,T,T,T,F,F,T,F,T,F,F] (by kernel_rfl) (h := ?_)
    refine pz 6 (some 78) #[T,T,T,T,T,T,T,F,T,F,T,F,F] (by kernel_rfl) (h := ?_)
    refine tz hHeld 7 (some 79) #[T,T,T,T,T,T,T,T,T,F,T,F,F] (by kernel_rfl) (h := ?_)
    refine tz hHeld 9 (some 81) #[T,T,T,T,T,T,T,T,T,T,T,F,F] (by kernel_rfl) (h := ?_)
    refine pz 11 (some 83) #[T,T,T,T,T,T,T,T,T,T,T,T,F] (by kernel_rfl) (h := ?_)
    clear hHeld
    have q0 := S7.out
    have qf := fun i => blk_frozen S4.out i
    refine last_ (i := 12) (N := none) #[T,T,T,T,T,T,T,T,T,T,T,T,T] rfl rfl (by kernel_rfl) (by decide) (fun K hK => ?_)
    refine skip_ (w1 := ?_) (by rfl) rfl ?_ ?_
    rotate_left
    ·go_simp
     rfl
    refine hK.out _ _ ?_
    clear hK K
    refine done_ (by kernel_rfl) ?_
    clear q0 qf
    go_wp2_with fail
    go_roundg (hr.length - (i + 1))
    case measure => have := HI.out; omega
    case rel =>
     have hne1 : w.heap.size ≠ g4 := blk_ne HA7.out S4.out (by decide)
     refine ⟨i + 1, by simp, ⟨by have := HI.out; omega⟩, ⟨?_⟩, ⟨?_⟩, ⟨blk_far (p := ⟨g4, i, none⟩) HA7.out hne1 _⟩, ⟨HB7.out.setCell S5.out _⟩, ⟨by simpa [World.setCell] using HL7.out⟩, ⟨HKP7.out.set S4.out i _⟩⟩
     ·rw [mixR_step hr hc x z H0.out i hic hlt, ← HCE.out.1, ← HKN.out, HU.out]
      exact S8.out
     ·exact HQ7.out.set S4.out i _
   have b1 : decide (c < kn) = false := decide_eq_false hcm
   have HU := am (show upd kn c = kn by unfold upd; rw [if_neg HKG.out, if_neg hcm])
   clear hcm
   go_wp2_with fail
   go_roundg (hr.length - (i + 1))
   case measure => have := HI.out; omega
   case rel =>
    refine ⟨i + 1, by simp, ⟨by have := HI.out; omega⟩, ⟨?_⟩, HQ6, HA6, HB6, ⟨Nat.lt_trans HL1.out HL6.out⟩, HKP6⟩
    have e1 : (mixR hr hc x z i).set i kn = mixR hr hc x z i := by
     rw [HKN.out, ← mixR_at hr hc x z H0.out i hic (by rw [mixR_len hr hc x z H0.out]; exact hic)]
     exact set_same _ _ _
    rw [mixR_step hr hc x z H0.out i hic hlt, ← HCE.out.1, ← HKN.out, HU.out, e1]
    exact HS6.out
  have ei : i = hr.length := by have := HI.out; omega
  subst ei
  go_wp2_with fail
  go_end0
  refine ⟨rfl, ?_, ?_, HKP1.out, HB1.out⟩
  ·have := HS1.out
   rwa [H0.out, mixR_all hr hc x z H0.out] at this
  ·have := HQ1.out.mono (ok' := ok) (fun _ _ hk => hk.1)
   rwa [H0.out] at this
def neg1 (h : List Int) : List Int := List.replicate h.length (-1)
/-! ### the states of the search -/
def SPt (x y : Int) : S92 := ⟨x, y⟩
def fullq (t n : Nat) : List S92 := (List.range n).map (fun j : Nat => SPt (t : Int) (j : Int))
theorem fullq_len (t n : Nat) : (fullq t n).length = n := by simp [fullq]
theorem fullq_snoc (t n : Nat) : fullq t (n + 1) = fullq t n ++ [SPt (t : Int) (n : Int)] := by simp [fullq, List.range_succ]
theorem fullq_drop (t n j : Nat) (h : j < n) : (fullq t n).drop j = SPt (t : Int) (j : Int) :: (fullq t n).drop (j + 1) := by
 have h' : j < (fullq t n).length := by rw [fullq_len]; exact h
 rw [List.drop_eq_getElem_cons h']
 simp [fullq]
def part (h h' cs : List Int) (j : Nat) : List Int := h.map (fun x => ((List.zipWith (fun y c => c + chg x y) h' cs).take j).foldl upd (-1))
theorem part_len (h h' cs : List Int) (j : Nat) : (part h h' cs j).length = h.length := by simp [part]
theorem part_zero (h h' cs : List Int) : part h h' cs 0 = List.replicate h.length (-1) := by
 unfold part
 simp only [List.take_zero, List.foldl_nil]
 rw [List.map_const']
theorem part_all (h h' cs : List Int) (hl : h'.length = cs.length) : part h h' cs cs.length = h.map (fun x => ahd x h' cs) := by
 unfold part ahd
 apply List.map_congr_left
 intro x _
 rw [List.take_of_length_le (by rw [List.length_zipWith]; omega)]
theorem part_step (h h' cs : List Int) (j : Nat) (hj : j < h'.length) (hc : j < cs.length) : newR h (part h h' cs j) cs[j] h'[j] = part h h' cs (j + 1) := by
 unfold newR part
 rw [List.zipWith_map_right, List.zipWith_self]
 apply List.map_congr_left
 intro x _
 have hz : j < (List.zipWith (fun y c => c + chg x y) h' cs).length := by rw [List.length_zipWith]; omega
 rw [List.take_succ_eq_append_getElem hz, List.foldl_append]
 simp
theorem part_neg (h h' cs : List Int) (hj : 0 < h'.length) (hl : h'.length = cs.length) (hn : ∀ c ∈ cs, 0 ≤ c) (j : Nat) : ∀ c ∈ part h h' cs (j + 1), 0 ≤ c := by
 intro c hc
 unfold part at hc
 obtain ⟨x, _, rfl⟩ := List.mem_map.1 hc
 refine (upd_min _ ?_ ?_).1
 ·intro e
  have := congrArg List.length e
  rw [List.length_take, List.length_zipWith, List.length_nil] at this
  omega
 ·intro c hc
  have hc := List.mem_of_mem_take hc
  obtain ⟨i, hi, rfl⟩ := List.getElem_of_mem hc
  rw [List.getElem_zipWith]
  have h1 := hn _ (List.getElem_mem (l := cs) (n := i) (by rw [List.length_zipWith] at hi; omega))
  have h2 := (chg_bd x (h'[i]'(by rw [List.length_zipWith] at hi; omega))).1
  omega
theorem pus_all (t : Nat) (k : List Int) (hk : ∀ i, i < k.length → k.getD i 0 < 0) : ∀ n, n ≤ k.length → pus t k n = fullq t n
 | 0, _ => rfl
 | n + 1, h => by
  rw [fullq_snoc, ← pus_all t k hk n (by omega)]
  simp only [pus]
  rw [if_pos (hk n (by omega))]
  rfl
theorem pus_none (t : Nat) (k : List Int) (hk : ∀ c ∈ k, 0 ≤ c) : ∀ n, n ≤ k.length → pus t k n = []
 | 0, _ => rfl
 | n + 1, h => by
  have hx : k.getD n 0 = k[n] := by simp [List.getD_eq_getElem?_getD, show n < k.length by omega]
  simp only [pus]
  rw [pus_none t k hk n (by omega), if_neg (by rw [hx]; have := hk _ (List.getElem_mem (l := k) (n := n) (by omega)); omega)]
  rfl
def costs : List (List Int) → List (List Int)
 | [] => []
 | h :: hs => rowCost (h :: hs) :: costs hs
theorem costs_len : ∀ hs : List (List Int), (costs hs).length = hs.length
 | [] => rfl
 | h :: hs => by simp [costs, costs_len hs]
theorem costs_get : ∀ (hs : List (List Int)) (i : Nat), i < hs.length → (costs hs)[i]? = some (rowCost (hs.drop i))
 | h :: hs, 0, _ => rfl
 | h :: hs, i + 1, hi => by
  have := costs_get hs i (by simpa using hi)
  simpa [costs] using this
/-- the rows of costs while row t's places are taken, j of them done -/
def rowAt (H : List (List Int)) (t j i : Nat) : List Int :=
 if t ≤ i then rowCost (H.drop i) else if i + 1 = t then part (H.getD i []) (H.getD t []) (rowCost (H.drop t)) j else neg1 (H.getD i [])
def stC (H : List (List Int)) (t j : Nat) : List (List Int) := (List.range H.length).map (rowAt H t j)
theorem stC_len (H : List (List Int)) (t j : Nat) : (stC H t j).length = H.length := by simp [stC]
theorem stC_get (H : List (List Int)) (t j i : Nat) (hi : i < H.length) : (stC H t j)[i]? = some (rowAt H t j i) := by
 unfold stC
 rw [List.getElem?_map, List.getElem?_range hi]
 rfl
theorem stC_set (H : List (List Int)) (t j : Nat) (r : List Int) (ht : t + 1 < H.length) (hr : r = rowAt H (t + 1) (j + 1) t) : (stC H (t + 1) j).set t r = stC H (t + 1) (j + 1) := by
 apply List.ext_getElem?
 intro i
 rw [List.getElem?_set]
 by_cases hi : i < H.length
 ·rw [stC_get H _ _ i hi, stC_get H _ _ i hi]
  by_cases e : t = i
  ·subst e
   rw [if_pos rfl, if_pos (by rw [stC_len]; exact hi), hr]
  rw [if_neg e]
  unfold rowAt
  by_cases h1 : t + 1 ≤ i
  ·rw [if_pos h1, if_pos h1]
  ·rw [if_neg h1, if_neg h1, if_neg (by omega), if_neg (by omega)]
 rw [List.getElem?_eq_none (by rw [stC_len]; omega), List.getElem?_eq_none (by rw [stC_len]; omega)]
 by_cases e : t = i
 ·omega
 ·rw [if_neg e]
theorem drop_cons (H : List (List Int)) (t : Nat) (ht : t < H.length) : H.drop t = H.getD t [] :: H.drop (t + 1) := by
 rw [List.drop_eq_getElem_cons ht]
 simp [List.getD_eq_getElem?_getD, ht]
theorem rowCost_cons (H : List (List Int)) (t : Nat) (ht : t + 1 < H.length) : rowCost (H.drop t) = (H.getD t []).map (fun x => ahd x (H.getD (t + 1) []) (rowCost (H.drop (t + 1)))) := by
 rw [drop_cons H t (by omega), drop_cons H (t + 1) ht]
 rfl
theorem rowCost_drop_len (H : List (List Int)) (t : Nat) (ht : t < H.length) : (rowCost (H.drop t)).length = (H.getD t []).length := by
 rw [rowCost_len, drop_cons H t ht]
 rfl
/-- row t + 1 is done -/
theorem stC_next (H : List (List Int)) (t : Nat) (ht : t + 1 < H.length) : stC H (t + 1) (H.getD (t + 1) []).length = stC H t 0 := by
 apply List.ext_getElem?
 intro i
 by_cases hi : i < H.length
 case neg => rw [List.getElem?_eq_none (by rw [stC_len]; omega), List.getElem?_eq_none (by rw [stC_len]; omega)]
 rw [stC_get H _ _ i hi, stC_get H _ _ i hi]
 congr 1
 unfold rowAt
 by_cases h1 : t + 1 ≤ i
 ·rw [if_pos h1, if_pos (by omega)]
 rw [if_neg h1]
 by_cases h2 : i + 1 = t + 1
 ·obtain rfl : i = t := by omega
  rw [if_pos rfl, if_pos (Nat.le_refl _), rowCost_cons H i ht, ← rowCost_drop_len H (i + 1) ht, part_all _ _ _ (rowCost_drop_len H (i + 1) ht).symm]
 rw [if_neg h2, if_neg (by omega)]
 by_cases h3 : i + 1 = t
 ·rw [if_pos h3, part_zero]
  rfl
 ·rw [if_neg h3]
theorem stC_done (H : List (List Int)) (j : Nat) : stC H 0 j = costs H := by
 apply List.ext_getElem?
 intro i
 by_cases hi : i < H.length
 ·rw [stC_get H _ _ i hi, costs_get H i hi]
  unfold rowAt
  rw [if_pos (Nat.zero_le _)]
 ·rw [List.getElem?_eq_none (by rw [stC_len]; omega), List.getElem?_eq_none (by rw [costs_len]; omega)]
theorem stC_start (H : List (List Int)) (m : Nat) (hm : H.length = m + 1) : (H.map neg1).set m (List.replicate (H.getD m []).length 0) = stC H m 0 := by
 apply List.ext_getElem?
 intro i
 rw [List.getElem?_set, List.getElem?_map]
 by_cases hi : i < H.length
 ·rw [stC_get H _ _ i hi]
  unfold rowAt
  by_cases e : m = i
  ·subst e
   rw [if_pos rfl, if_pos (by simpa using hi), if_pos (Nat.le_refl _), drop_cons H m (by omega), List.drop_eq_nil_of_le (by omega)]
   unfold rowCost
   rw [List.map_const']
  have hx : H[i]? = some (H.getD i []) := by simp [List.getD_eq_getElem?_getD, hi]
  rw [if_neg e, if_neg (by omega), hx]
  by_cases h3 : i + 1 = m
  ·rw [if_pos h3, part_zero]
   rfl
  ·rw [if_neg h3]
   rfl
 rw [List.getElem?_eq_none (l := H) (by omega), List.getElem?_eq_none (l := stC H m 0) (by rw [stC_len]; omega)]
 by_cases e : m = i
 ·omega
 ·rw [if_neg e]
  rfl
/-- the places that wait, (t, j) taken out -/
def rest (H : List (List Int)) (t j : Nat) : List S92 := (fullq t (H.getD t []).length).drop (j + 1) ++ (if j = 0 ∨ t = 0 then [] else fullq (t - 1) (H.getD (t - 1) []).length)
theorem lst_le_len : ∀ (hs : List (List Int)), Full hs → ∀ x, lst x hs ≤ hs.length
 | [], _, x => Int.le_refl _
 | h :: hs, f, x => by
  obtain ⟨_, y, hy, e⟩ := lst_min f x
  have h1 := lst_le_len hs f.tail y
  have h2 := (chg_bd x y).2
  rw [List.length_cons]
  omega
theorem rowCost_bd {h : List Int} {hs : List (List Int)} (f : Full hs) : ∀ c ∈ rowCost (h :: hs), 0 ≤ c ∧ c ≤ hs.length := by
 intro c hc
 rw [rowCost_get] at hc
 obtain ⟨x, _, rfl⟩ := List.mem_map.1 hc
 exact ⟨lst_bd hs f x, lst_le_len hs f x⟩
theorem full_drop {H : List (List Int)} (f : Full H) (t : Nat) : Full (H.drop t) := fun x hx => f x (List.mem_of_mem_drop hx)
theorem rowCost_bd' {H : List (List Int)} (f : Full H) (t : Nat) (ht : t < H.length) : ∀ c ∈ rowCost (H.drop t), 0 ≤ c ∧ c ≤ H.length := by
 intro c hc
 rw [drop_cons H t ht] at hc
 have := rowCost_bd (full_drop f (t + 1)) c hc
 rw [List.length_drop] at this
 omega
theorem full_pos {H : List (List Int)} (f : Full H) (t : Nat) (ht : t < H.length) : 0 < (H.getD t []).length := by
 have h := f H[t] (List.getElem_mem ht)
 have e : H.getD t [] = H[t] := by simp [List.getD_eq_getElem?_getD, ht]
 rw [e]
 exact List.length_pos_iff.2 h
/-- what is behind a place: the next place, or the end -/
def Nxt (H : List (List Int)) (t j : Nat) (C : List (List Int)) (q : List S92) : Prop :=
 (∃ t' j' : Nat, q = SPt (t' : Int) (j' : Int) :: rest H t' j' ∧ t' < H.length ∧ j' < (H.getD t' []).length ∧ C = stC H t' j' ∧ t' * 8 + (8 - j') < t * 8 + (8 - j)) ∨ (q = [] ∧ C = costs H)
theorem nxt_zero (H : List (List Int)) (f : Full H) (h7 : ∀ h ∈ H, h.length ≤ 7) (j : Nat) (h0 : 0 < H.length) (hj : j < (H.getD 0 []).length) : Nxt H 0 j (stC H 0 j) (rest H 0 j) := by
 have e : rest H 0 j = (fullq 0 (H.getD 0 []).length).drop (j + 1) := by unfold rest; rw [if_pos (.inr rfl), List.append_nil]
 have e2 : H.getD 0 [] = H[0] := by simp [List.getD_eq_getElem?_getD, h0]
 have h8 := h7 H[0] (List.getElem_mem h0)
 rw [← e2] at h8
 rw [e]
 by_cases h1 : j + 1 < (H.getD 0 []).length
 case neg => exact .inr ⟨by rw [List.drop_eq_nil_of_le (by rw [fullq_len]; omega)], stC_done H j⟩
 refine .inl ⟨0, j + 1, ?_, h0, h1, by rw [stC_done, stC_done], by omega⟩
 rw [fullq_drop 0 _ (j + 1) h1]
 unfold rest
 rw [if_pos (.inr rfl), List.append_nil]
theorem nxt_succ (H : List (List Int)) (f : Full H) (h7 : ∀ h ∈ H, h.length ≤ 7) (t j : Nat) (ht : t + 1 < H.length) (hj : j < (H.getD (t + 1) []).length) : Nxt H (t + 1) j (stC H (t + 1) (j + 1)) ((fullq (t + 1) (H.getD (t + 1) []).length).drop (j + 1) ++ fullq t (H.getD t []).length) := by
 have e2 : H.getD (t + 1) [] = H[t + 1] := by simp [List.getD_eq_getElem?_getD, ht]
 have h8 := h7 H[t + 1] (List.getElem_mem ht)
 rw [← e2] at h8
 by_cases h1 : j + 1 < (H.getD (t + 1) []).length
 ·refine .inl ⟨t + 1, j + 1, ?_, ht, h1, rfl, by omega⟩
  rw [fullq_drop (t + 1) _ (j + 1) h1]
  unfold rest
  rw [if_neg (by omega)]
  rfl
 have e3 : j + 1 = (H.getD (t + 1) []).length := by omega
 have hp := full_pos f t (by omega)
 refine .inl ⟨t, 0, ?_, by omega, hp, by rw [e3]; exact stC_next H t ht, by omega⟩
 rw [List.drop_eq_nil_of_le (by rw [fullq_len]; omega), List.nil_append]
 unfold rest
 rw [if_pos (.inl rfl), List.append_nil]
 exact fullq_drop t _ 0 hp
theorem ahead_zero (gs gq : Nat) (j : Int) (w : World) :
  Calls Tryz.prog 103 #[.pointer (some ⟨gs, 0, none⟩), .agg #[.int .i64 0, .int .i64 j], .pointer (some ⟨gq, 0, none⟩)] w fun e w' => e = .returned (.tuple #[]) ∧ Below w.heap.size w w' := by
 have hu1 := Tryz.underlying92
 have a0 := blk_cell (blk_new w (.cells #[.int .i64 0, .int .i64 j] 92)) 0
 simp only [List.getElem?_toArray, List.getElem?_cons_zero, List.getElem?_cons_succ] at a0
 have HB := am (below_alloc (Below.refl w.heap.size w) (.cells #[.int .i64 0, .int .i64 j] 92))
 go_enter Tryz.func103, Tryz.ntmps103
 go_wp2
 refine bodyPost_ret (results_none rfl _ _ _) rfl ?_
 exact ⟨rfl, HB.out⟩
theorem ahead_st (base gs gq : Nat) (ok : Nat → Prop) (H : List (List Int)) (f : Full H) (h7 : ∀ h ∈ H, h.length ≤ 7) (hn : H.length ≤ 24) (t j : Nat) (ht : t < H.length) (hj : j < (H.getD t []).length) (w : World) (h : Sg base w gs H (stC H t j)) (hq : Qu base w gq ok (rest H t j)) (hf : ∀ k, w.heap.size ≤ k → ok k) (hb : base ≤ w.heap.size) :
  Calls Tryz.prog 103 #[.pointer (some ⟨gs, 0, none⟩), .agg #[.int .i64 (t : Int), .int .i64 (j : Int)], .pointer (some ⟨gq, 0, none⟩)] w fun e w' => e = .returned (.tuple #[]) ∧ ∃ C q, Sg base w' gs H C ∧ Qu base w' gq ok q ∧ KP w w' ok ∧ Below base w w' ∧ Nxt H t j C q := by
 cases t with
 | zero => exact (ahead_zero gs gq (j : Int) w).mono fun e w' ⟨he, hb'⟩ => ⟨he, _, _, h.below hb', hq.below hb', KP.below (fun _ _ h1 _ => h1 : KP w w ok) hb', hb'.mono hb, nxt_zero H f h7 j ht hj⟩
 | succ t =>
  have g0 : H[t]? = some (H.getD t []) := by simp [List.getD_eq_getElem?_getD, show t < H.length by omega]
  have g1 : H[t + 1]? = some (H.getD (t + 1) []) := by simp [List.getD_eq_getElem?_getD, ht]
  have l7 : ∀ i, i < H.length → (H.getD i []).length ≤ 7 := fun i hi => by
   have e : H.getD i [] = H[i] := by simp [List.getD_eq_getElem?_getD, hi]
   rw [e]
   exact h7 _ (List.getElem_mem hi)
  have hl := rowCost_drop_len H (t + 1) ht
  have hbd := rowCost_bd' f (t + 1) ht
  have hjc : j < (rowCost (H.drop (t + 1))).length := by omega
  have hx := hbd _ (List.getElem_mem hjc)
  have r0 : rowAt H (t + 1) j t = part (H.getD t []) (H.getD (t + 1) []) (rowCost (H.drop (t + 1))) j := by unfold rowAt; rw [if_neg (by omega), if_pos rfl]
  have r1 : rowAt H (t + 1) j (t + 1) = rowCost (H.drop (t + 1)) := by unfold rowAt; rw [if_pos (Nat.le_refl _)]
  have hq500 : (rest H (t + 1) j).length ≤ 500 := by
   unfold rest
   rw [List.length_append, List.length_drop, fullq_len]
   have := l7 (t + 1) ht
   have := l7 t (by omega)
   split
   ·rw [List.length_nil]; omega
   ·rw [fullq_len, Nat.add_sub_cancel]; omega
  have e1 : ((t + 1 : Nat) : Int) = (t : Int) + 1 := by omega
  rw [e1]
  refine (ahead_any base gs gq ok H (stC H (t + 1) j) (rest H (t + 1) j) t j (H.getD t []) (part (H.getD t []) (H.getD (t + 1) []) (rowCost (H.drop (t + 1))) j) (H.getD (t + 1) []) (rowCost (H.drop (t + 1))) (rowCost (H.drop (t + 1)))[j] (H.getD (t + 1) [])[j] w h hq hf hb hq500 g0 (by rw [stC_get H _ _ t (by omega), r0]) g1 (by rw [stC_get H _ _ (t + 1) ht, r1]) (List.getElem?_eq_getElem hj) (List.getElem?_eq_getElem hjc) (by rw [part_len]) (l7 t (by omega)) (full_pos f t (by omega)) hx.1 (by omega) (by omega)).mono ?_
  rintro e w' ⟨he, hS, hQ, hK, hB⟩
  rw [part_step _ _ _ j hj hjc, stC_set H t j _ ht (by unfold rowAt; rw [if_neg (by omega), if_pos rfl])] at hS
  refine ⟨he, _, _, hS, hQ, hK, hB, ?_⟩
  have hN := nxt_succ H f h7 t j ht hj
  have e2 : rest H (t + 1) j ++ pus t (part (H.getD t []) (H.getD (t + 1) []) (rowCost (H.drop (t + 1))) j) (part (H.getD t []) (H.getD (t + 1) []) (rowCost (H.drop (t + 1))) j).length = (fullq (t + 1) (H.getD (t + 1) []).length).drop (j + 1) ++ fullq t (H.getD t []).length := by
   unfold rest
   cases j with
   | zero =>
    rw [if_pos (.inl rfl), List.append_nil, pus_all _ _ (fun i hi => by
     rw [part_zero] at hi ⊢
     rw [List.length_replicate] at hi
     rw [List.getD_eq_getElem?_getD, List.getElem?_replicate, if_pos hi]
     decide) _ (Nat.le_refl _), part_len]
   | succ j =>
    rw [if_neg (by omega), pus_none _ _ (part_neg _ _ _ (by omega) hl.symm (fun c hc => (hbd c hc).1) j) _ (Nat.le_refl _), List.append_nil, Nat.add_sub_cancel]
  rw [e2]
  exact hN
theorem pop_at (base gq : Nat) (ok : Nat → Prop) (x y : Int) (q : List S92) (w : World) (h : Qu base w gq ok (SPt x y :: q)) (hb : base ≤ w.heap.size) :
  Calls Tryz.prog 102 #[.pointer (some ⟨gq, 0, none⟩)] w fun e w' => e = .returned (.tuple #[.agg #[.int .i64 x, .int .i64 y], .bool true]) ∧ Qu base w' gq ok q ∧ KQ w w' gq ok ∧ Below base w w' := pop_some base gq ok (SPt x y) q w h hb
theorem rest_head (H : List (List Int)) (m n : Nat) (hn : n = (H.getD m []).length) (hp : 0 < n) : fullq m n = SPt (m : Int) ((0 : Nat) : Int) :: rest H m 0 := by
 subst hn
 unfold rest
 rw [if_pos (.inl rfl), List.append_nil]
 exact fullq_drop m _ 0 hp
theorem KT.box {w : World} {b : Nat} {cs : Array Value} (hb : w.heap[b]? = some (.cells cs 92 (0, 0))) (j : Nat) (u : Value) : KT w (w.setCell ⟨b, j, none⟩ u) := by
 refine ⟨by simp [World.setCell], fun k c q hq hc => blk_far (p := ⟨b, j, none⟩) hc ?_ _⟩
 rintro rfl
 rw [hb] at hc
 injection hc with hc
 injection hc with _ hc
 rcases hq with rfl | rfl | rfl <;> exact absurd hc (by decide)
theorem Qu.far {base : Nat} {w : World} {gq : Nat} {q : List S92} {b : Nat} (h : Qu base w gq (fun k => k ≠ b) q) {cs : Array Value} (hb : w.heap[b]? = some (.cells cs 92 (0, 0))) (j : Nat) (u : Value) : Qu base (w.setCell ⟨b, j, none⟩ u) gq (fun k => k ≠ b) q := by
 obtain ⟨v, h1, h2, h3⟩ := h
 exact ⟨v, blk_far (p := ⟨b, j, none⟩) h1 (blk_ne h1 hb (by decide)) _, h2, Kd.Q_far (p := ⟨b, j, none⟩) h3 (fun k hk => hk) u⟩
/-! ### newSinging -/
theorem infoR : (Tryz.prog.info? 28).map (fun i => (i.zero, i.size, i.bytes)) = some (some (.slice none 0 0), 1, 24) := by kernel_rfl
theorem infoI : (Tryz.prog.info? 3).map (fun i => (i.zero, i.size, i.bytes)) = some (some (.int .i64 0), 1, 8) := by kernel_rfl
def rowOf (t : S74) : List Int := hexOf t.f0 t.f1 7
def rowsOf (l : List S74) : List (List Int) := l.map rowOf
def negr (n j : Nat) : List Int := List.replicate j (-1) ++ List.replicate (n - j) 0
theorem negr_len (n j : Nat) (h : j ≤ n) : (negr n j).length = n := by unfold negr; rw [List.length_append, List.length_replicate, List.length_replicate]; omega
theorem negr_step (n j : Nat) (h : j < n) : (negr n j).set j (-1) = negr n (j + 1) := by
 unfold negr
 rw [List.set_append_right _ _ (by rw [List.length_replicate]; exact Nat.le_refl _), List.length_replicate, Nat.sub_self, show n - j = (n - (j + 1)) + 1 by omega, List.replicate_succ, List.set_cons_zero, List.replicate_succ' (n := j), List.append_assoc]
 rfl
theorem negr_zero (n : Nat) : negr n 0 = List.replicate n 0 := by simp [negr]
theorem negr_all (n : Nat) : negr n n = List.replicate n (-1) := by simp [negr]
theorem rdS_at (l : List S74) (i : Nat) (h : i < l.length) : rd_T74 l (i : Int) = l[i] := by
 simp [rd_T74, List.getD_eq_getElem?_getD, h]
theorem rowsOf_snoc (l : List S74) (i : Nat) (h : i < l.length) : (rowsOf l).take (i + 1) = (rowsOf l).take i ++ [rowOf l[i]] := by
 have h' : i < (rowsOf l).length := by simpa [rowsOf] using h
 rw [List.take_succ_eq_append_getElem h']
 simp [rowsOf]
/-- the first loop -/
def NS1 (base : Nat) (w : World) (gs : Nat) (l : List S74) (i : Nat) : Prop := Sg base w gs ((rowsOf l).take i) (((rowsOf l).take i).map neg1)
theorem Sg_nil (w : World) (base gs : Nat) (h : w.heap[gs]? = some (.cells #[.slice none 0 0, .slice none 0 0] 95 (0, 0))) (hb : base ≤ gs) : Sg base w gs [] [] :=
 ⟨none, 0, none, 0, fun _ => False, fun _ => False, h, hb, Kd.R_nil _ _ _ _ _, Kd.S_nil _ _ _ _ _, fun _ h _ => h⟩
theorem Sg_mk {base : Nat} {w : World} {gs : Nat} {H C : List (List Int)} {AH AC : Option Addr} {cH cC nH nC : Nat} {okH okC : Nat → Prop} (eH : H.length = nH) (eC : C.length = nC)
  (h1 : w.heap[gs]? = some (.cells #[.slice AH nH cH, .slice AC nC cC] 95 (0, 0))) (h2 : base ≤ gs) (h3 : Kd.R (Kd.slice 3 (Kd.int .i64)) 28 w base okH (.slice AH nH cH) H) (h4 : Kd.S (Kd.slice 3 (Kd.int .i64)) 28 w base okC (.slice AC nC cC) C) (h5 : ∀ k, okH k → ¬ okC k) : Sg base w gs H C := by
 subst eH
 subst eC
 exact ⟨AH, cH, AC, cC, okH, okC, h1, h2, h3, h4, h5⟩
/-- the last loop's state: the place that was taken out, or the end -/
def PS (H : List (List Int)) (ok : Bool) (x y : Int) (C : List (List Int)) (q : List S92) (kq : Nat) : Prop :=
 (ok = true ∧ ∃ t j : Nat, x = (t : Int) ∧ y = (j : Int) ∧ t < H.length ∧ j < (H.getD t []).length ∧ C = stC H t j ∧ q = rest H t j ∧ kq = t * 8 + (8 - j)) ∨ (ok = false ∧ C = costs H)
def zr (n i : Nat) : List Int := List.replicate i 0 ++ List.replicate (n - i) (-1)
theorem zr_len (n i : Nat) (h : i ≤ n) : (zr n i).length = n := by unfold zr; rw [List.length_append, List.length_replicate, List.length_replicate]; omega
theorem zr_step (n i : Nat) (h : i < n) : (zr n i).set i 0 = zr n (i + 1) := by
 unfold zr
 rw [List.set_append_right _ _ (by rw [List.length_replicate]; exact Nat.le_refl _), List.length_replicate, Nat.sub_self, show n - i = (n - (i + 1)) + 1 by omega, List.replicate_succ, List.set_cons_zero, List.replicate_succ' (n := i), List.append_assoc]
 rfl
theorem zr_zero (h : List Int) : zr h.length 0 = neg1 h := by simp [zr, neg1]
theorem zr_all (n : Nat) : zr n n = List.replicate n 0 := by simp [zr]
theorem newSinging_any (A0 : Option Addr) (c0 : Nat) (l0 : List S74) (w : World) (hr0 : Kd.C k74 w A0 l0.length l0) (hc0 : l0.length ≤ c0) (hTL : TabL w) (hp : 0 < l0.length) (hl : l0.length ≤ 24) (hne : ∀ t ∈ l0, 0 < (rowOf t).length) :
  Calls Tryz.prog 69 #[.slice A0 l0.length c0] w fun e w' => ∃ gs, e = .returned (.pointer (some ⟨gs, 0, none⟩)) ∧ Sg w.heap.size w' gs (rowsOf l0) (costs (rowsOf l0)) ∧ Below w.heap.size w w' := by
 have hu1 := Tryz.underlying92
 have hu2 := Tryz.underlying95
 have hu3 := Tryz.underlying74
 have hu4 := Tryz.underlying136
 have HR0 := am hr0
 have HC0 := am hc0
 have HTL := am hTL
 have HNE := am hne
 have HP := am hp
 have HG0 := am (blk_new w (.cells #[.slice none 0 0, .slice none 0 0] 95))
 have HB0 := am (below_alloc (Below.refl w.heap.size w) (.cells #[.slice none 0 0, .slice none 0 0] 95))
 clear hr0 hc0 hTL hne hp
 go_enter Tryz.func69, Tryz.ntmps69
 go_wp2_with fail
 go_loopg [18] l0.length (fun kq v18 w' => ∃ i : Nat, v18 = .int .i64 (i : Int) ∧ Aside0 (kq + i = l0.length) ∧ Aside0 (NS1 w.heap.size w' w.heap.size l0 i) ∧ Aside0 (Below w.heap.size w w'))
 case atStart => exact ⟨0, rfl, ⟨by omega⟩, ⟨Sg_nil _ _ _ HG0.out (Nat.le_refl _)⟩, HB0⟩
 case round =>
  obtain ⟨i, rfl, HI, HS1, HB1⟩ := hrel
  clear HG0 HB0
  by_cases hlt : i < l0.length
  ·obtain ⟨ad, e1, hx0, hx1⟩ := at_T74 (Kd.C_below HR0.out HB1.out) (i : Int) (by omega) (by omega)
   cases e1
   simp only [Int.toNat_natCast] at hx0 hx1
   rw [rdS_at l0 i hlt] at hx0 hx1
   have p0 : 0 ≤ (i : Int) := by omega
   have p1 : (i : Int) < (l0.length : Int) := by omega
   replace p0 := eq_true p0
   replace p1 := eq_true p1
   obtain ⟨AH, cH, AC, cC, okH, okC, h1, h2, h3, h4, h5⟩ := HS1.out
   have bb := am (below_alloc (Below.refl wr.heap.size wr) (.cells #[.int .i64 l0[i].f0, .bool l0[i].f1] 74))
   go_wp2_with fail
   refine (impl_HexAll.calls l0[i].f0 l0[i].f1 (rowOf l0[i]) _ (TabAt.below HTL.out (below_step HB1.out bb.out)) rfl).mono ?_
   rintro e w1 ⟨v0, rfl, hv0, hbx⟩
   have BX := am (below_step bb.out hbx)
   have HV0 := am hv0
   have HLO := am (below_size bb.out)
   have HNL := am (HNE.out l0[i] (List.getElem_mem hlt))
   obtain ⟨n, hn⟩ : ∃ n, n = (rowOf l0[i]).length := ⟨_, rfl⟩
   obtain ⟨A6, c6, rfl⟩ := Kd.R_slice hv0
   rw [← hn] at HNL HV0 ⊢
   have HN := am hn
   have HN7 := am (show n ≤ 7 by rw [hn]; exact hexOf_len _ _ _)
   clear hv0 hbx hn bb
   go_wp2_with ((with_reducible refine gate_dst (N := 26) rfl ?_); refine Kd.R_make (Kd.int .i64) w1.heap.size 3 rfl (N := 26) rfl 28 _ _ rfl (n : Int) rfl rfl Tryz.underlying28 (.int .i64 0) 8 infoI rfl (by decide) (by omega) 0 (ok := fun _ => True) (okp := fun _ => True) rfl (fun _ hk => hk) trivial (by omega) ?ml (Below.refl _ _) (Nat.le_refl _) ?_; (case ml => have := HN7.out; omega); intro v7 w2 ho hb hg hnew; rw [Int.toNat_natCast] at ho; obtain ⟨g7, c7, rfl, hg7, _, _⟩ := Kd.R_form ho (by rw [List.length_replicate]; exact HNL.out); simp only [List.length_replicate] at ho ⊢; have HO7 := am ho; have HG7 := am hg7; have HB7 := am hb; clear ho hb hg hnew hg7)
   obtain ⟨wo, rfl⟩ : ∃ wo : World, wo = wr := ⟨_, rfl⟩
   go_loopg [29] n (fun kq v29 w' => ∃ j : Nat, v29 = .int .i64 (j : Int) ∧ Aside0 (kq + j = n) ∧ Aside0 (Kd.R (Kd.int .i64) 3 w' w1.heap.size (fun _ => True) (.slice (some ⟨g7, 0, none⟩) n c7) (negr n j)) ∧ Aside0 (Below w1.heap.size w1 w'))
   case atStart => exact ⟨0, rfl, ⟨by omega⟩, ⟨by rw [negr_zero]; exact HO7.out⟩, HB7⟩
   case round =>
    obtain ⟨j, rfl, HJ, HR7, HB8⟩ := hrel
    clear HO7 HB7
    obtain ⟨cs7, hcs7⟩ := Kd.R_typed HR7.out g7 (by simp [Value.ownBlock])
    by_cases hj : j < n
    ·obtain ⟨ad7, e7, q0⟩ := at_ints (Kd.R_reads' HR7.out).2.2 rfl j (by rw [negr_len n j (by omega)]; exact hj)
     obtain rfl : (⟨g7, 0, none⟩ : Addr) = ad7 := by injection e7
     rw [add_plain] at q0
     have qf := fun i => blk_frozen hcs7 i
     have hn7 := HN7.out
     have p2 : 0 ≤ (j : Int) := by omega
     have p3 : (j : Int) < (n : Int) := by omega
     replace p2 := eq_true p2
     replace p3 := eq_true p3
     go_wp2_with fail
     go_roundg (n - (j + 1))
     case measure => have := HJ.out; omega
     case rel =>
      have h6 := (Kd.R_putg HR7.out (j : Int) (-1)).1
      rw [Int.toNat_natCast, negr_step n j hj] at h6
      exact ⟨j + 1, by simp, ⟨by have := HJ.out; omega⟩, ⟨h6⟩, ⟨below_set HB8.out HG7.out⟩⟩
    have ej : n = j := by have := HJ.out; omega
    subst ej
    clear hj HJ
    obtain ⟨Hi, hHi⟩ : ∃ Hi, Hi = (rowsOf l0).take i := ⟨_, rfl⟩
    have HHI := am hHi
    have HIL := am (show Hi.length ≤ 24 by rw [hHi, List.length_take]; omega)
    rw [← hHi] at h1 h3 h4
    obtain ⟨Ci, hCi⟩ : ∃ Ci, Ci = Hi.map neg1 := ⟨_, rfl⟩
    have HCI := am hCi
    have HCL := am (show Ci.length ≤ 24 by rw [hCi, List.length_map]; exact HIL.out)
    rw [← hCi] at h1 h4
    have BY := below_step BX.out HB8.out
    have s01 := BX.out.size
    have s12 := HB8.out.size
    have s00 := HLO.out
    have HWB := am (below_step HB1.out BY)
    have HK := am (blk_below h1 BY)
    have HRH := am (Kd.R_below (Kd.R_mono (ok' := fun k => okH k ∧ k < wo.heap.size) (Kd.R_bound h3) (fun k hk => ⟨hk.1, hk.2.2.1⟩)) BY)
    have HSC := am (Kd.S_below (Kd.S_mono (ok' := fun k => okC k ∧ k < wo.heap.size) (Kd.S_bound h4) (fun k hk => ⟨hk.1, hk.2.2.1⟩)) BY)
    have HV0b := am (Kd.R_lower (Kd.R_below (Kd.R_mono (ok' := fun k => wo.heap.size ≤ k ∧ k < w1.heap.size) (Kd.R_bound HV0.out) (fun k hk => ⟨Nat.le_trans s00 hk.2.1, hk.2.2.1⟩)) HB8.out) (Nat.le_trans HB1.out.size s00))
    have HV7b := am (Kd.R_lower (Kd.R_mono (ok' := fun k => w1.heap.size ≤ k ∧ k < wr.heap.size) (Kd.R_bound HR7.out) (fun k hk => ⟨hk.2.1, hk.2.2.1⟩)) (Nat.le_trans HB1.out.size s01))
    have HD := am h5
    have HS01 := am (And.intro s01 s12)
    have HLA := am (Kd.R_lt h3)
    have HLC := am (Kd.S_lt h4)
    clear h1 h3 h4 h5 HR7 HB8 BX BY HV0 HLO s01 s12 s00 hHi hCi HS1
    have k0 := blk_cell HK.out 0
    have kf := fun i => blk_frozen HK.out i
    go_upto_region 13 with ((with_reducible refine gate_builtin (b := .append) (xs := #[.tmp 40, .tmp 42]) rfl ?_); at_builtin; refine Kd.R_append (Kd.slice 3 (Kd.int .i64)) (w0 := w) w.heap.size rfl (.tmp 40) (.tmp 42) 93 28 (.slice none 0 0) 24 rfl Tryz.underlying93 infoR rfl (by decide) (by omega) (.slice AH Hi.length cH) Hi (rowOf l0[i]) [.slice A6 n c6] (fun k => (okH k ∧ k < wo.heap.size) ∨ (wo.heap.size ≤ k ∧ k < w1.heap.size) ∨ wr.heap.size ≤ k) (fun k => wo.heap.size ≤ k ∧ k < w1.heap.size) rfl rfl ?aP ?aK ?aF ?aO ?aB ?aS ?aL ?_; (case aP => exact ⟨_, rfl, HV0b.out⟩); (case aK => exact (fun k hk => ⟨.inr (.inl hk), fun e => by have := HLA.out k e.symm; omega⟩)); (case aF => exact (fun k hk => .inr (.inr hk))); (case aO => exact Kd.R_mono HRH.out (fun k hk => .inl hk)); (case aB => exact HWB.out); (case aS => exact (below_size HWB.out)); (case aL => have := HIL.out; omega); intro v1 w6 ho hb hg hat; obtain ⟨A9, c9, rfl⟩ := Kd.R_slice ho; have HO9 := am ho; have HB9 := am hb; have HK9 := am (blk_grown HK.out hg (Kd.R_ne HRH.out HK.out (by decide))); have HSC9 := am (Kd.S_grown HSC.out hg (fun k hk e => HD.out k (HRH.out.1 k e.symm).1 hk.1)); have HV79 := am (Kd.R_grown HV7b.out hg (fun k hk e => by have := HLA.out k e.symm; have := HS01.out; omega)); have HZ9 := am hg.size; clear ho hb hg hat k0 kf HK HRH HSC HV7b HV0b HWB; have k60 := blk_cell HK9.out 0; have k61 := blk_cell HK9.out 1; have kf := fun i => blk_frozen HK9.out i)
    have ho9 := HO9.out
    rw [List.length_append, List.length_singleton] at ho9
    have hk3 : ∀ q, q ∈ 3 :: (Kd.int .i64).E → q ≠ 95 := fun q hq => by
     rcases List.mem_cons.1 hq with rfl | hq
     ·decide
     ·exact absurd hq (List.not_mem_nil)
    have HK7 := am (blk_put HK9.out 0 (.slice A9 (Hi.length + 1) c9) rfl)
    have HO7 := am (Kd.R_set ho9 HK9.out (kI_ne _ (by decide)) 0 (.slice A9 (Hi.length + 1) c9))
    have HSC7 := am (Kd.S_set HSC9.out HK9.out (kI_ne _ (by decide)) 0 (.slice A9 (Hi.length + 1) c9))
    have HV77 := am (Kd.R_set HV79.out HK9.out hk3 0 (.slice A9 (Hi.length + 1) c9))
    have HB7 := am (below_set (j := 0) (v := .slice A9 (Hi.length + 1) c9) HB9.out (Nat.le_refl _))
    have HZ7 := am (show wr.heap.size ≤ (w6.setCell ⟨w.heap.size, 0, none⟩ (.slice A9 (Hi.length + 1) c9)).heap.size by simpa [World.setCell] using HZ9.out)
    clear ho9 hk3 HK9 HO9 HSC9 HV79 HB9 HZ9 k60 k61 kf
    generalize w6.setCell ⟨w.heap.size, 0, none⟩ (.slice A9 (Hi.length + 1) c9) = w7 at HK7 HO7 HSC7 HV77 HB7 HZ7 ⊢
    have k60 := blk_cell HK7.out 0
    have k61 := blk_cell HK7.out 1
    have kf := fun i => blk_frozen HK7.out i
    simp only [sA, sZ, sS, List.getElem?_toArray, List.getElem?_cons_zero, List.getElem?_cons_succ] at k60 k61
    go_upto_region 14 with ((with_reducible refine gate_builtin (b := .append) (xs := #[.tmp 50, .tmp 52]) rfl ?_); at_builtin; refine Kd.S_append (Kd.slice 3 (Kd.int .i64)) (w0 := w) w.heap.size rfl (.tmp 50) (.tmp 52) 93 28 (.slice none 0 0) 24 rfl Tryz.underlying93 infoR rfl (by decide) (by omega) (.slice AC Ci.length cC) Ci (negr n n) [.slice (some ⟨g7, 0, none⟩) n c7] (fun k => (okC k ∧ k < wo.heap.size) ∨ (w1.heap.size ≤ k ∧ k < wr.heap.size) ∨ w7.heap.size ≤ k) (fun k => w1.heap.size ≤ k ∧ k < wr.heap.size) rfl rfl ?aP ?aK ?aF ?aO ?aB ?aS ?aL ?_; (case aP => exact ⟨_, rfl, HV77.out⟩); (case aK => exact (fun k hk => ⟨.inr (.inl hk), fun e => by have := HLC.out k e.symm; have := HS01.out; omega⟩)); (case aF => exact (fun k hk => .inr (.inr hk))); (case aO => exact Kd.S_mono HSC7.out (fun k hk => ⟨.inl hk, fun h => by have := HS01.out; omega⟩)); (case aB => exact HB7.out); (case aS => exact (below_size HB7.out)); (case aL => have := HCL.out; omega); intro v1 w8 ho hb hg hat; obtain ⟨A10, c10, rfl⟩ := Kd.S_slice ho; have HS10 := am ho; have HB10 := am hb; have HK10 := am (blk_grown HK7.out hg (Kd.S_ne HSC7.out HK7.out (by decide))); have HO10 := am (Kd.R_grown (Kd.R_mono (ok' := fun k => ((okH k ∧ k < wo.heap.size) ∨ (wo.heap.size ≤ k ∧ k < w1.heap.size) ∨ wr.heap.size ≤ k) ∧ k < w7.heap.size) (Kd.R_bound HO7.out) (fun k hk => ⟨hk.1, hk.2.2.1⟩)) hg (fun k hk e => by have h7 := (Kd.S_R HSC7.out).1 k e.symm; have := HS01.out; rcases hk.1 with h8 | h8 | h8; exact HD.out k h8.1 h7.1; (have := h7.2; omega); (have := h7.2; omega))); have HZ10 := am (Nat.le_trans HZ7.out hg.size); clear ho hb hg hat k60 k61 kf HK7 HO7 HSC7 HV77 HB7; have k60 := blk_cell HK10.out 0; have k61 := blk_cell HK10.out 1; have kf := fun i => blk_frozen HK10.out i)
    have ho10 := HS10.out
    rw [List.length_append, List.length_singleton] at ho10
    have HKz := am (blk_put HK10.out 1 (.slice A10 (Ci.length + 1) c10) rfl)
    have HOz := am (Kd.R_set HO10.out HK10.out (kI_ne _ (by decide)) 1 (.slice A10 (Ci.length + 1) c10))
    have HSz := am (Kd.S_set ho10 HK10.out (kI_ne _ (by decide)) 1 (.slice A10 (Ci.length + 1) c10))
    have HBz := am (below_set (j := 1) (v := .slice A10 (Ci.length + 1) c10) HB10.out (Nat.le_refl _))
    clear ho10 HK10 HO10 HS10 HB10 k60 k61 kf
    go_wp2_with fail
    go_roundg (l0.length - (i + 1))
    case measure => have := HI.out; omega
    case rel =>
     refine ⟨i + 1, by simp, ⟨by have := HI.out; omega⟩, ⟨?_⟩, HBz⟩
     unfold NS1
     rw [rowsOf_snoc l0 i hlt, ← HHI.out, List.map_append, ← HCI.out, List.map_cons, List.map_nil, show neg1 (rowOf l0[i]) = negr n n by rw [negr_all, HN.out]; rfl]
     refine Sg_mk (by simp) (by simp) HKz.out (Nat.le_refl _) HOz.out HSz.out (fun k hk hk2 => ?_)
     have e1 := HS01.out
     have e2 := HZ7.out
     rcases hk with ⟨h6 | h6 | h6, h7⟩
     ·rcases hk2 with h8 | h8 | h8
      ·exact HD.out k h6.1 h8.1
      ·omega
      ·omega
     ·rcases hk2 with h8 | h8 | h8 <;> omega
     ·rcases hk2 with h8 | h8 | h8 <;> omega
  have ei : i = l0.length := by have := HI.out; omega
  subst ei
  have hS := HS1.out
  unfold NS1 at hS
  rw [List.take_of_length_le (by simp [rowsOf])] at hS
  have hbq := below_alloc (Below.refl wr.heap.size wr) (.cells #[.slice none 0 0] 136)
  have HS2 := am (hS.below hbq)
  have HB2 := am (below_step HB1.out hbq)
  have HGQ := am (blk_new wr (.cells #[.slice none 0 0] 136))
  have HBL := am HB1.out.size
  clear hS hbq HS1 HB1 HI hlt
  obtain ⟨m, hm⟩ : ∃ m, m + 1 = l0.length := ⟨l0.length - 1, by have := HP.out; omega⟩
  obtain ⟨H, hH⟩ : ∃ H, H = rowsOf l0 := ⟨_, rfl⟩
  have hHl : H.length = m + 1 := by rw [hH, hm]; simp [rowsOf]
  have HFU := am (show Full H by
   intro h hh
   rw [hH] at hh
   obtain ⟨t, ht, rfl⟩ := List.mem_map.1 hh
   exact List.length_pos_iff.1 (HNE.out t ht))
  have HM7 := am (show ∀ h ∈ H, h.length ≤ 7 by
   intro h hh
   rw [hH] at hh
   obtain ⟨t, ht, rfl⟩ := List.mem_map.1 hh
   exact hexOf_len _ _ _)
  have HHE := am hH
  rw [← hH] at HS2
  clear hH
  have HHL := am hHl
  have hm24 : m < 24 := by omega
  have em : (l0.length : Int) - 1 = (m : Int) := by omega
  obtain ⟨n, hn⟩ : ∃ n, n = (H.getD m []).length := ⟨_, rfl⟩
  have eHm : H.getD m [] = H[m] := by simp [List.getD_eq_getElem?_getD, show m < H.length by omega]
  have HN := am hn
  have HNP := am (show 0 < n by rw [hn]; exact full_pos HFU.out m (by omega))
  have HN7 := am (show n ≤ 7 by rw [hn, eHm]; exact HM7.out _ (List.getElem_mem _))
  obtain ⟨AH, cH, AC, cC, q0, q1, qH, qC⟩ := HS2.out.reads
  obtain ⟨adH, A1, c1, rfl, q2, qz1, qz2⟩ := qH m (by omega)
  rw [← eHm, ← hn] at q2
  have p0 : 0 ≤ (m : Int) := by omega
  have p1 : (m : Int) < (H.length : Int) := by omega
  replace p0 := eq_true p0
  replace p1 := eq_true p1
  have HMM := am hm
  clear q1 qz1 qz2 qH qC hn eHm hHl hm
  go_upto_region 17 with fail
  clear em
  obtain ⟨wo, rfl⟩ : ∃ wo : World, wo = wr := ⟨_, rfl⟩
  go_wp2_with fail
  go_loopg [70] n (fun kq v70 w' => ∃ i : Nat, v70 = .int .i64 (i : Int) ∧ Aside0 (kq + i = n) ∧ Aside0 (Sg w.heap.size w' w.heap.size H ((H.map neg1).set m (zr n i))) ∧ Aside0 (Qu w.heap.size w' wo.heap.size (fun _ => True) (fullq m i)) ∧ Aside0 (Below w.heap.size w w'))
  case atStart =>
   refine ⟨0, rfl, ⟨by omega⟩, ⟨?_⟩, ⟨⟨_, HGQ.out, HBL.out, Kd.Q_nil _ _ _ _ _⟩⟩, HB2⟩
   have e1 : (H.map neg1).set m (zr n 0) = H.map neg1 := by
    have hl := HHL.out
    have h2 : m < (H.map neg1).length := by rw [List.length_map]; omega
    have h3 : zr n 0 = (H.map neg1)[m] := by
     rw [List.getElem_map, HN.out, zr_zero]
     simp [List.getD_eq_getElem?_getD, show m < H.length by omega]
    rw [h3]
    exact set_same _ _ h2
   rw [e1]
   exact HS2.out
  case round =>
   obtain ⟨i, rfl, HI, HS3, HQ3, HB3⟩ := hrel
   clear HS2 HGQ HB2 q0 q2
   by_cases hlt : i < n
   ·have hml : m < H.length := by have := HHL.out; omega
    obtain ⟨AH2, cH2, adc, cC2, s0, s1, sH, sC⟩ := HS3.out.opens (by rw [List.length_set, List.length_map]; omega)
    obtain ⟨g, c2, s2, s3, ⟨cs, s4⟩, s5, s6⟩ := sC m (by rw [List.length_set, List.length_map]; omega) (by rw [List.getElem_set_self, zr_len n i (by omega)]; omega)
    have s7 := s3 i (by rw [List.getElem_set_self, zr_len n i (by omega)]; omega)
    have s8 := s6 i 0 (by rw [List.getElem_set_self, zr_len n i (by omega)]; omega)
    simp only [List.getElem_set_self, zr_len n i (Nat.le_of_lt hlt), List.length_set, List.length_map, List.set_set] at s1 s2 s8
    have S8 := am s8
    have S4 := am s4
    have S5 := am s5
    have hqs := am (HQ3.out.set s4 i (.int .i64 0))
    have qf := fun i => blk_frozen s4 i
    have p2 : 0 ≤ (i : Int) := by omega
    have p3 : (i : Int) < (n : Int) := by omega
    have p4 : (m : Int) < (H.length : Int) := by omega
    replace p2 := eq_true p2
    replace p3 := eq_true p3
    replace p4 := eq_true p4
    have hn7 := HN7.out
    clear s0 s3 s4 s5 s6 s8 sH sC
    go_wp2_with fail
    refine (push_any w.heap.size wo.heap.size (fun _ => True) (fullq m i) (m : Int) (i : Int) _ hqs.out (fun _ _ => trivial) (by have := HB3.out.size; simpa [World.setCell] using this) (by rw [fullq_len]; omega)).mono ?_
    rintro e w3 ⟨rfl, hq3, hk3, hb3⟩
    obtain ⟨vq, hgq, _⟩ := hqs.out
    have HS4 := am (S8.out.kt (hk3.kt hgq))
    have HQ4 := am hq3
    have HB4 := am ((HB3.out.setCell S5.out _).trans hb3)
    clear hq3 hk3 hb3 hgq hqs S8 S5 S4 s1 s2 s7 qf HS3 HQ3 HB3
    go_wp2_with fail
    go_roundg (n - (i + 1))
    case measure => have := HI.out; omega
    case rel =>
     refine ⟨i + 1, by simp, ⟨by have := HI.out; omega⟩, ⟨?_⟩, ⟨?_⟩, HB4⟩
     ·rw [← zr_step n i hlt]
      exact HS4.out
     ·rw [fullq_snoc]
      exact HQ4.out
   have ei : i = n := by have := HI.out; omega
   subst ei
   have hSx := HS3.out
   have hQx := HQ3.out
   rw [zr_all, HN.out, stC_start H m HHL.out] at hSx
   rw [rest_head H m i HN.out HNP.out] at hQx
   have HSx := am hSx
   have HQx := am hQx
   clear hSx hQx HS3 HQ3 hlt HI
   go_wp2_with fail
   refine (pop_at w.heap.size wo.heap.size (fun _ => True) (m : Int) ((0 : Nat) : Int) _ _ HQx.out HB3.out.size).mono ?_
   rintro e w4 ⟨rfl, hq4, hk4, hb4⟩
   obtain ⟨vq, hgq, _⟩ := HQx.out
   have hbx := below_alloc (Below.refl w4.heap.size w4) (.cells #[.int .i64 (m : Int), .int .i64 ((0 : Nat) : Int)] 92)
   have HS5 := am ((HSx.out.kt (hk4.kt hgq)).below hbx)
   have HQ5 := am ((hq4.mono (ok' := fun k => k ≠ w4.heap.size) (fun k hk _ => by omega)).below hbx)
   have HB5 := am (below_step (HB3.out.trans hb4) hbx)
   have HZ5 := am (blk_new w4 (.cells #[.int .i64 (m : Int), .int .i64 ((0 : Nat) : Int)] 92))
   have HL5 := am (HB3.out.trans hb4).size
   clear hq4 hk4 hb4 hgq hbx HSx HQx HB3
   go_wp2_with fail
   go_loopg [12, 13] (m * 8 + 8) (fun kq v12 v13 w' => ∃ (b : Nat) (x y : Int) (ok : Bool) (C : List (List Int)) (q : List S92), v12 = .pointer (some ⟨b, 0, none⟩) ∧ v13 = .bool ok ∧ Aside0 (w'.heap[b]? = some (.cells #[.int .i64 x, .int .i64 y] 92 (0, 0))) ∧ Aside0 (Sg w.heap.size w' w.heap.size H C) ∧ Aside0 (Qu w.heap.size w' wo.heap.size (fun k => k ≠ b) q) ∧ Aside0 (Below w.heap.size w w') ∧ Aside0 (w.heap.size ≤ b) ∧ Aside0 (PS H ok x y C q kq))
   case atStart => exact ⟨w4.heap.size, _, _, true, _, _, rfl, rfl, HZ5, HS5, HQ5, HB5, HL5, ⟨.inl ⟨rfl, m, 0, rfl, rfl, by have := HHL.out; omega, by have := HNP.out; rw [← HN.out]; exact this, rfl, rfl, rfl⟩⟩⟩
   case round =>
    obtain ⟨b, x, y, ok, C, q, rfl, rfl, HZ6, HS6, HQ6, HB6, HL6, HP6⟩ := hrel
    clear HZ5 HS5 HQ5 HB5 HL5
    rcases HP6.out with ⟨rfl, t, j, rfl, rfl, ht, hj, rfl, rfl, hk⟩ | ⟨rfl, rfl⟩
    ·have HT := am (And.intro ht (And.intro hj hk))
     have k0 := blk_cell HZ6.out 0
     have k1 := blk_cell HZ6.out 1
     simp only [List.getElem?_toArray, List.getElem?_cons_zero, List.getElem?_cons_succ] at k0 k1
     clear ht hj hk HP6
     go_wp2_with fail
     refine (ahead_st w.heap.size w.heap.size wo.heap.size (fun k => k ≠ b) H HFU.out HM7.out (by have := HHL.out; omega) t j HT.out.1 HT.out.2.1 _ HS6.out HQ6.out (fun k hk => by have := blk_lt HZ6.out; omega) HB6.out.size).mono ?_
     rintro e w7 ⟨rfl, C7, q7, hS7, hQ7, hK7, hB7, hN7⟩
     have hz7 := hK7 b _ HZ6.out (fun h => h rfl)
     have HS7 := am hS7
     have HQ7 := am hQ7
     have HB7 := am (HB6.out.trans hB7)
     have HZ7 := am hz7
     have HN7x := am hN7
     have k2 := blk_cell hz7 0
     have k3 := blk_cell hz7 1
     simp only [List.getElem?_toArray, List.getElem?_cons_zero, List.getElem?_cons_succ] at k2 k3
     clear hS7 hQ7 hK7 hB7 hN7 hz7 k0 k1 HZ6 HS6 HQ6 HB6
     go_wp2_with fail
     have hbx := below_alloc (Below.refl w7.heap.size w7) (.cells #[.int .i64 (t : Int), .int .i64 (j : Int)] 92)
     have HQ8 := am ((HQ7.out.mono (ok' := fun k => k ≠ w7.heap.size) (fun k hk _ => by omega)).below hbx)
     have HS8 := am (HS7.out.below hbx)
     have HZ8 := am (blk_new w7 (.cells #[.int .i64 (t : Int), .int .i64 (j : Int)] 92))
     have HB8 := am (below_step HB7.out hbx)
     have HL8 := am HB7.out.size
     clear hbx k2 k3 HZ7 HS7 HQ7 HB7
     rcases HN7x.out with ⟨t', j', rfl, ht', hj', rfl, hlt'⟩ | ⟨rfl, rfl⟩
     ·have HT' := am (And.intro ht' (And.intro hj' hlt'))
      clear ht' hj' hlt'
      refine (pop_at w.heap.size wo.heap.size (fun k => k ≠ w7.heap.size) (t' : Int) (j' : Int) _ _ HQ8.out HB8.out.size).mono ?_
      rintro e w8 ⟨rfl, hq9, hk9, hb9⟩
      obtain ⟨vq, hgq, _⟩ := HQ8.out
      have HZ9 := am (hk9.blk HZ8.out (blk_ne HZ8.out hgq (by decide)) (fun h => h rfl))
      have HS9 := am (HS8.out.kt (hk9.kt hgq))
      have HQ9 := am hq9
      have HB9 := am (HB8.out.trans hb9)
      have k4 := blk_cell HZ9.out 0
      have k5 := blk_cell HZ9.out 1
      have kf := fun i => blk_frozen HZ9.out i
      simp only [List.getElem?_toArray, List.getElem?_cons_zero, List.getElem?_cons_succ] at k4 k5
      clear hq9 hk9 hb9 hgq HZ8 HS8 HQ8 HB8
      go_wp2_with fail
      go_roundg (t' * 8 + (8 - j'))
      case measure => have := HT'.out; have := HT.out; omega
      case rel =>
       have hz1 := blk_put HZ9.out 0 (.int .i64 (t' : Int)) rfl
       refine ⟨w7.heap.size, t', j', true, _, _, rfl, rfl, ⟨blk_put hz1 1 _ rfl⟩, ⟨(HS9.out.kt (KT.box HZ9.out 0 _)).kt (KT.box hz1 1 _)⟩, ⟨(HQ9.out.far HZ9.out 0 _).far hz1 1 _⟩, ⟨(HB9.out.setCell HL8.out _).setCell HL8.out _⟩, HL8, ⟨.inl ⟨rfl, t', j', rfl, rfl, HT'.out.1, HT'.out.2.1, rfl, rfl, rfl⟩⟩⟩
     ·refine (pop_none w.heap.size wo.heap.size (fun k => k ≠ w7.heap.size) _ HQ8.out).mono ?_
      rintro e w8 ⟨rfl, hb9⟩
      have HZ9 := am (blk_below HZ8.out hb9)
      have HS9 := am (HS8.out.below hb9)
      have HQ9 := am (HQ8.out.below hb9)
      have HB9 := am (below_step HB8.out hb9)
      have k4 := blk_cell HZ9.out 0
      have k5 := blk_cell HZ9.out 1
      have kf := fun i => blk_frozen HZ9.out i
      simp only [List.getElem?_toArray, List.getElem?_cons_zero, List.getElem?_cons_succ] at k4 k5
      clear hb9 HZ8 HS8 HQ8 HB8
      go_wp2_with fail
      go_roundg 0
      case measure =>
       have h1 := HT.out
       have h2 : (H.getD t []).length ≤ 7 := by
        have e : H.getD t [] = H[t]'h1.1 := by simp [List.getD_eq_getElem?_getD, h1.1]
        rw [e]
        exact HM7.out _ (List.getElem_mem _)
       omega
      case rel =>
       have hz1 := blk_put HZ9.out 0 (.int .i64 0) rfl
       refine ⟨w7.heap.size, 0, 0, false, _, _, rfl, rfl, ⟨blk_put hz1 1 _ rfl⟩, ⟨(HS9.out.kt (KT.box HZ9.out 0 _)).kt (KT.box hz1 1 _)⟩, ⟨(HQ9.out.far HZ9.out 0 _).far hz1 1 _⟩, ⟨(HB9.out.setCell HL8.out _).setCell HL8.out _⟩, HL8, ⟨.inr ⟨rfl, rfl⟩⟩⟩
    ·go_wp2_with fail
     go_ret
     refine ⟨_, rfl, ?_, HB6.out⟩
     rw [← HHE.out]
     exact HS6.out
/-! ### SingBest -/
theorem many_zero : ∀ (k : Nat) (l : List S74) (n i r : Int), impl_SingMany.l0 k 0 l n i = some r → r = 0 := by
 intro k
 induction k with
 | zero => intro l n i r h; simp [impl_SingMany.l0] at h
 | succ k ih =>
  intro l n i r h
  simp only [impl_SingMany.l0] at h
  by_cases h1 : i < n
  case neg => rw [if_neg h1] at h; exact (Option.some.inj h).symm
  by_cases h2 : 0 ≤ i
  case neg => rw [if_pos h1, if_neg h2] at h; exact absurd h (by simp)
  by_cases h3 : i < (l.length : Int)
  case neg => rw [if_pos h1, if_pos h2, if_neg h3] at h; exact absurd h (by simp)
  rw [if_pos h1, if_pos h2, if_pos h3] at h
  obtain ⟨v, _, h⟩ := Option.bind_eq_some_iff.mp h
  rw [Int.zero_mul, show wrap64 0 = 0 by unfold wrap64; omega] at h
  exact ih _ _ _ _ h
theorem many_l0 : ∀ (k : Nat) (x : Int) (l : List S74) (i : Nat) (r : Int), l.length ≤ 24 → impl_SingMany.l0 k x l (l.length : Int) (i : Int) = some r → r ≠ 0 → ∀ t ∈ l.drop i, 0 < (rowOf t).length := by
 intro k
 induction k with
 | zero => intro x l i r hl h; simp [impl_SingMany.l0] at h
 | succ k ih =>
  intro x l i r hl h hr t ht
  simp only [impl_SingMany.l0] at h
  by_cases h1 : i < l.length
  case neg => rw [List.drop_eq_nil_of_le (by omega)] at ht; exact absurd ht (by simp)
  rw [if_pos (by omega), if_pos (by omega), if_pos (by omega), rdS_at l i h1] at h
  obtain ⟨v, hv, h⟩ := Option.bind_eq_some_iff.mp h
  obtain rfl : rowOf l[i] = v := Option.some.inj hv
  rw [show wrap64 ((i : Int) + 1) = ((i + 1 : Nat) : Int) by unfold wrap64; omega] at h
  have h0 : (rowOf l[i]).length ≠ 0 := by
   intro e
   rw [e, show x * ((0 : Nat) : Int) = 0 by simp, show wrap64 0 = 0 by unfold wrap64; omega] at h
   exact hr (many_zero k l _ _ _ h)
  rw [List.drop_eq_getElem_cons h1] at ht
  rcases List.mem_cons.1 ht with rfl | ht
  ·omega
  ·exact ih _ l (i + 1) r hl h hr t ht
theorem many_facts {k : Nat} {l : List S74} {r : Int} (h : impl_SingMany.f k l = some r) (hr : 0 < r) : l.length ≤ 24 ∧ ∀ t ∈ l, 0 < (rowOf t).length := by
 unfold impl_SingMany.f at h
 obtain ⟨b, hb, h⟩ := Option.bind_eq_some_iff.mp h
 cases b with
 | false =>
  rw [if_neg (by decide)] at h
  have := Option.some.inj h
  omega
 | true =>
  rw [if_pos rfl] at h
  have hl : l.length ≤ 24 := by
   unfold impl_MelodyValid.f at hb
   by_cases hl : (l.length : Int) > 24
   ·rw [if_pos hl] at hb
    exact absurd hb (by simp)
   ·omega
  exact ⟨hl, by simpa using many_l0 k 1 l 0 r hl h (by omega)⟩
theorem rowOf_asc (t : S74) : (rowOf t).Pairwise (· < ·) := by
 unfold rowOf hexOf
 rw [List.pairwise_map]
 refine List.Pairwise.filter _ ?_
 rw [show hexAll.take 7 = [0, 3, 6, 7, 10, 13, 14] from rfl]
 decide
theorem rows_full {l : List S74} (h : ∀ t ∈ l, 0 < (rowOf t).length) : Full (rowsOf l) := by
 intro x hx
 obtain ⟨t, ht, rfl⟩ := List.mem_map.1 hx
 exact List.length_pos_iff.1 (h t ht)
theorem rows_asc (l : List S74) : Asc (rowsOf l) := by
 intro x hx
 obtain ⟨t, ht, rfl⟩ := List.mem_map.1 hx
 exact rowOf_asc t
/-- the first of the least, by its index -/
def pJ (f : Nat → Int) : Nat → Int × Int
 | 0 => (-1, 0)
 | n + 1 => if (pJ f n).1 < 0 ∨ f n < (pJ f n).2 then ((n : Int), f n) else pJ f n
theorem pickS_snoc (g : Int → Int) : ∀ (l : List Int) (y : Int) (b : Int × Int), pickS g (l ++ [y]) b = if (pickS g l b).2 < 0 ∨ g y < (pickS g l b).2 then (y, g y) else pickS g l b
 | [], y, b => rfl
 | x :: l, y, b => by
  simp only [List.cons_append, pickS]
  exact pickS_snoc g l y _
theorem pJ_pick (g : Int → Int) (h : List Int) (hg : ∀ y, 0 ≤ g y) : ∀ n, n + 1 ≤ h.length → ∃ j : Nat, j < n + 1 ∧ (pJ (fun j => g (h.getD j 0)) (n + 1)).1 = (j : Int) ∧ 0 ≤ (pJ (fun j => g (h.getD j 0)) (n + 1)).2 ∧ pickS g (h.take (n + 1)) (-1, -1) = (h.getD j 0, (pJ (fun j => g (h.getD j 0)) (n + 1)).2)
 | 0, hn => by
  match h, hn with
  | y :: h, _ => exact ⟨0, by omega, rfl, hg y, rfl⟩
 | n + 1, hn => by
  obtain ⟨j, hj, e1, e2, e3⟩ := pJ_pick g h hg n (by omega)
  have hx : n + 1 < h.length := by omega
  have hx2 : h[n + 1] = h.getD (n + 1) 0 := by simp [List.getD_eq_getElem?_getD, hx]
  rw [List.take_succ_eq_append_getElem hx, pickS_snoc, e3, hx2]
  have e4 : pJ (fun j => g (h.getD j 0)) (n + 1 + 1) = if (pJ (fun j => g (h.getD j 0)) (n + 1)).1 < 0 ∨ g (h.getD (n + 1) 0) < (pJ (fun j => g (h.getD j 0)) (n + 1)).2 then (((n + 1 : Nat) : Int), g (h.getD (n + 1) 0)) else pJ (fun j => g (h.getD j 0)) (n + 1) := rfl
  by_cases hc : g (h.getD (n + 1) 0) < (pJ (fun j => g (h.getD j 0)) (n + 1)).2
  ·rw [if_pos (.inr hc)]
   rw [if_pos (.inr hc)] at e4
   rw [e4]
   exact ⟨n + 1, by omega, rfl, hg _, rfl⟩
  rw [if_neg (by rintro (h1 | h1); (have h2 : (pJ (fun j => g (h.getD j 0)) (n + 1)).2 < 0 := h1; omega); exact hc h1)]
  rw [if_neg (by rintro (h1 | h1); (rw [e1] at h1; omega); exact hc h1)] at e4
  rw [e4]
  exact ⟨j, by omega, e1, e2, rfl⟩
theorem pJ_best (p : Option Int) {h : List Int} {hs : List (List Int)} (f : Full (h :: hs)) : ∃ j : Nat, j < h.length ∧ (pJ (fun j => lst (h.getD j 0) hs + pre p (h.getD j 0)) h.length).1 = (j : Int) ∧ h.getD j 0 = (fst1 p h hs).1 := by
 have hp : 0 < h.length := List.length_pos_iff.2 (f h (List.mem_cons_self ..))
 obtain ⟨n, hn⟩ : ∃ n, h.length = n + 1 := ⟨h.length - 1, by omega⟩
 obtain ⟨j, h1, h2, _, h3⟩ := pJ_pick (fun y => lst y hs + pre p y) h (fun y => by
  have := lst_bd hs f.tail y
  have := (pre_bd p y).1
  show 0 ≤ lst y hs + pre p y
  omega) n (by omega)
 rw [List.take_of_length_le (by omega)] at h3
 refine ⟨j, by omega, by rw [hn]; exact h2, ?_⟩
 unfold fst1
 rw [h3]
/-- what was taken ahead of tone i -/
def prv (p : Option Int) (B : List Int) : Nat → Option Int
 | 0 => p
 | i + 1 => some (B.getD i 0)
theorem best_at : ∀ (H : List (List Int)) (p : Option Int) (i : Nat), i < H.length → (best p H).getD i 0 = (fst1 (prv p (best p H) i) (H.getD i []) (H.drop (i + 1))).1
 | h :: hs, p, 0, _ => rfl
 | h :: hs, p, i + 1, hi => by
  have ih := best_at hs (some (fst1 p h hs).1) i (by simpa using hi)
  have e1 : best p (h :: hs) = (fst1 p h hs).1 :: best (some (fst1 p h hs).1) hs := rfl
  rw [e1, List.getD_cons_succ, ih]
  have e2 : prv (some (fst1 p h hs).1) (best (some (fst1 p h hs).1) hs) i = prv p ((fst1 p h hs).1 :: best (some (fst1 p h hs).1) hs) (i + 1) := by
   cases i with
   | zero => rfl
   | succ i => rfl
  rw [e2]
  rfl
/-- the state's blocks are as they were -/
def FZ (B : Nat) (w w1 : World) : Prop := w.heap.size ≤ w1.heap.size ∧ ∀ k, B ≤ k → k < w.heap.size → w1.heap[k]? = w.heap[k]?
theorem FZ.refl (B : Nat) (w : World) : FZ B w w := ⟨Nat.le_refl _, fun _ _ _ => rfl⟩
theorem FZ.below {B : Nat} {w w1 w2 : World} (h : FZ B w w1) (hb : Below w1.heap.size w1 w2) : FZ B w w2 := ⟨Nat.le_trans h.1 hb.size, fun k h1 h2 => (hb.block k (Nat.lt_of_lt_of_le h2 h.1)).trans (h.2 k h1 h2)⟩
theorem FZ.set {B : Nat} {w w1 : World} (h : FZ B w w1) {b : Nat} (hb : w.heap.size ≤ b) (j : Nat) (u : Value) : FZ B w (w1.setCell ⟨b, j, none⟩ u) := ⟨by simpa [World.setCell] using h.1, fun k h1 h2 => (Below.heap_setCell w1 ⟨b, j, none⟩ u k (by show k ≠ b; omega)).trans (h.2 k h1 h2)⟩
theorem FZ.grown {B : Nat} {w w1 w2 : World} (h : FZ B w w1) {row : Option Nat} (hg : w1.grownBy w2 row) (hr : ∀ k, row = some k → k < B ∨ w.heap.size ≤ k) : FZ B w w2 := ⟨Nat.le_trans h.1 hg.size, fun k h1 h2 => (hg.block k (Nat.lt_of_lt_of_le h2 h.1) (fun e => by have := hr k e.symm; omega)).trans (h.2 k h1 h2)⟩
theorem Sg.fz {B : Nat} {w w1 : World} {gs : Nat} {H C : List (List Int)} (h : Sg B w gs H C) (z : FZ B w w1) : Sg B w1 gs H C := by
 obtain ⟨AH, cH, AC, cC, okH, okC, h1, h2, h3, h4, h5⟩ := h
 refine ⟨AH, cH, AC, cC, okH, okC, (z.2 gs h2 (blk_lt h1)).trans h1, h2, ?_, ?_, h5⟩
 ·exact Kd.R_mono (Kd.R_move (Kd.R_bound h3) (fun k hk => z.2 k hk.2.1 hk.2.2.1)) (fun _ hk => hk.1)
 ·exact Kd.S_mono (Kd.S_move (Kd.S_bound h4) (fun k hk => z.2 k hk.2.1 hk.2.2.1)) (fun _ hk => hk.1)
def impl_SingBest.f (n : Nat) (l0 : List S74) : Option (List Int × Bool) := (impl_SingMany.f n l0).bind fun k => some (if k ≤ 0 then (([] : List Int), false) else (best none (rowsOf l0), true))
theorem bh_sub {w w1 : World} (h : Below w.heap.size w w1) : Below w.heap.size w w1 := h
/-- the place that was taken ahead of tone i -/
def AtS (H : List (List Int)) (B : List Int) (x y : Int) : Nat → Prop
 | 0 => True
 | i + 1 => x = (i : Int) ∧ ∃ j : Nat, y = (j : Int) ∧ j < (H.getD i []).length ∧ (H.getD i []).getD j 0 = B.getD i 0
theorem impl_SingBest.mono : ∀ a0 n, LeO (impl_SingBest.f n a0) (impl_SingBest.f (n + 1) a0) := by
 intro a0 n
 unfold impl_SingBest.f
 exact LeO.bind (impl_SingMany.mono _ _) (fun _ => LeO.refl _)
theorem impl_SingBest.calls (n : Nat) (A0 : Option Addr) (c0 : Nat) (l0 : List (S74)) (r1 : List Int) (r2 : Bool) (w : World) (hr0 : Kd.C k74 w A0 l0.length l0) (hc0 : l0.length ≤ c0) (hTL : TabL w) (h : impl_SingBest.f n l0 = some (r1, r2)) :
  Calls Tryz.prog 32 #[.slice A0 l0.length c0] w fun e w' => ∃ v0_ : Value, e = .returned (.tuple #[v0_, .bool r2]) ∧ Kd.R (Kd.int .i64) 3 w' w.heap.size (fun _ => True) v0_ r1 ∧ Below w.heap.size w w' := by
 obtain ⟨mn, hmn, h⟩ := Option.bind_eq_some_iff.mp h
 have e1 := Option.some.inj h
 clear h
 have hu1 := Tryz.underlying92
 have hu2 := Tryz.underlying95
 have HR0 := am hr0
 have HC0 := am hc0
 have HTL := am hTL
 have HMN := am hmn
 clear hr0 hc0 hTL hmn
 by_cases hm0 : mn ≤ 0
 ·rw [if_pos hm0] at e1
  obtain ⟨rfl, rfl⟩ : ([] : List Int) = r1 ∧ false = r2 := by simpa using e1
  have b0 : decide (mn ≤ 0) = true := decide_eq_true hm0
  clear hm0 e1
  go_enter Tryz.func32, Tryz.ntmps32
  go_wp2_with fail
  refine (impl_SingMany.calls n A0 c0 l0 mn _ HR0.out HC0.out HTL.out HMN.out).mono ?_
  rintro e w1 ⟨rfl, hb⟩
  have HB := am hb
  clear hb
  go_wp2_with fail
  go_ret2
  exact ⟨_, rfl, Kd.R_nil _ _ _ _ _, HB.out⟩
 rw [if_neg hm0] at e1
 obtain ⟨rfl, rfl⟩ : best none (rowsOf l0) = r1 ∧ true = r2 := by simpa using e1
 have b0 : decide (mn ≤ 0) = false := decide_eq_false hm0
 obtain ⟨hl24, hrow⟩ := many_facts HMN.out (by omega)
 have HROW := am hrow
 clear hm0 e1 hrow
 by_cases hl : l0.length = 0
 ·obtain rfl : l0 = [] := List.length_eq_zero_iff.mp hl
  have b1 : (((0 : Nat) : Int) == 0) = true := rfl
  clear hl
  go_enter Tryz.func32, Tryz.ntmps32
  go_wp2_with fail
  refine (impl_SingMany.calls n A0 c0 _ mn _ HR0.out HC0.out HTL.out HMN.out).mono ?_
  rintro e w1 ⟨rfl, hb⟩
  have HB := am (bu hb : Below w.heap.size w (w1.alloc (.cells #[] 3)))
  have HZ := am (blk_new w1 (.cells #[] 3))
  have HLE := am hb.size
  clear hb
  go_wp2_with fail
  go_ret2
  exact ⟨_, rfl, R_empty2 _ _ _ trivial HZ.out HLE.out, HB.out⟩
 have b1 : ((l0.length : Int) == 0) = false := beq_eq_false_iff_ne.mpr (by omega)
 have HP := am hl
 clear hl
 go_enter Tryz.func32, Tryz.ntmps32
 go_wp2_with fail
 refine (impl_SingMany.calls n A0 c0 l0 mn _ HR0.out HC0.out HTL.out HMN.out).mono ?_
 rintro e w1 ⟨rfl, hb⟩
 have HB1 := am (bu hb : Below w.heap.size w (w1.alloc (.cells #[] 3)))
 have HZ1 := am (blk_new w1 (.cells #[] 3))
 have HLE := am hb.size
 clear hb
 go_wp2_with fail
 refine (newSinging_any A0 c0 l0 _ (Kd.C_below HR0.out HB1.out) HC0.out (TabAt.below HTL.out HB1.out) (by have := HP.out; omega) hl24 HROW.out).mono ?_
 rintro e w2 ⟨gs, rfl, hS, hb2⟩
 obtain ⟨B1, hB1⟩ : ∃ B1, B1 = (w1.alloc (.cells #[] 3)).heap.size := ⟨_, rfl⟩
 obtain ⟨H, hH⟩ : ∃ H, H = rowsOf l0 := ⟨_, rfl⟩
 obtain ⟨B, hBE⟩ : ∃ B, B = best none (rowsOf l0) := ⟨_, rfl⟩
 have hHl : H.length = l0.length := by rw [hH]; simp [rowsOf]
 have HHL := am hHl
 have HFU := am (show Full H by rw [hH]; exact rows_full HROW.out)
 have HM7 := am (show ∀ h ∈ H, h.length ≤ 7 by
  intro h hh
  rw [hH] at hh
  obtain ⟨t, ht, rfl⟩ := List.mem_map.1 hh
  exact hexOf_len _ _ _)
 have HBE := am (show B = best none H by rw [hBE, hH])
 have HBR := am hBE
 rw [← hH, ← hB1] at hS
 have hb2' := hb2
 have HSG := am hS
 have hx := below_alloc (Below.refl w2.heap.size w2) (.cells #[.int .i64 0, .int .i64 0] 92)
 have HB3 := am (below_step (below_step HB1.out hb2) hx)
 have HL3 := am (R_empty2 (Kd.int .i64) 3 (base := w.heap.size) (fun k => k < B1 ∨ w2.heap.size ≤ k) (.inl (by rw [hB1]; exact blk_lt HZ1.out)) (blk_below (blk_below HZ1.out hb2) hx) HLE.out)
 have HF3 := am ((FZ.refl B1 w2).below hx)
 have HA3 := am (blk_new w2 (.cells #[.int .i64 0, .int .i64 0] 92))
 have HWB := am (Nat.le_trans HB1.out.size (below_size hb2))
 clear hB1 hH hBE hHl hS hb2 hb2' hx HB1 HZ1 HLE
 go_wp2_with fail
 go_loopg [26, 4] l0.length (fun kq v26 v4 w' => ∃ i : Nat, v26 = .int .i64 (i : Int) ∧ Aside0 (kq + i = l0.length) ∧ Aside0 (Kd.R (Kd.int .i64) 3 w' w.heap.size (fun k => k < B1 ∨ w2.heap.size ≤ k) v4 (B.take i)) ∧ Aside0 (FZ B1 w2 w') ∧ Aside0 (∃ x y, w'.heap[w2.heap.size]? = some (.cells #[.int .i64 x, .int .i64 y] 92 (0, 0)) ∧ AtS H B x y i) ∧ Aside0 (Below w.heap.size w w'))
 case atStart => exact ⟨0, rfl, ⟨by omega⟩, HL3, HF3, ⟨0, 0, HA3.out, trivial⟩, HB3⟩
 case round =>
  obtain ⟨i, rfl, HI, HL4, HF4, HA4, HB4⟩ := hrel
  clear HB3 HL3 HF3 HA3
  obtain ⟨x6, y6, ha6, hat⟩ := HA4.out
  have HA6 := am ha6
  have HAT := am hat
  clear ha6 hat HA4
  by_cases hlt : i < l0.length
  ·have hiH : i < H.length := by have := HHL.out; omega
   obtain ⟨hr, hhr⟩ : ∃ hr, hr = H.getD i [] := ⟨_, rfl⟩
   obtain ⟨hs, hhs⟩ : ∃ hs, hs = H.drop (i + 1) := ⟨_, rfl⟩
   have hfu : Full (hr :: hs) := by
    rw [hhr, hhs, ← drop_cons H i hiH]
    exact full_drop HFU.out i
   have HFH := am hfu
   have hcr : (costs H)[i]? = some (hr.map (fun x => lst x hs)) := by
    rw [costs_get H i hiH, drop_cons H i hiH, ← hhr, ← hhs, rowCost_get]
   obtain ⟨n, hn⟩ : ∃ n, n = hr.length := ⟨_, rfl⟩
   have HN := am hn
   have HNP := am (show 0 < n by rw [hn]; exact List.length_pos_iff.2 (hfu hr (List.mem_cons_self ..)))
   have HHR := am hhr
   have HHS := am hhs
   obtain ⟨hci, hce⟩ := List.getElem?_eq_some_iff.1 hcr
   have hx := below_alloc (Below.refl wr.heap.size wr) (.cells #[.int .i64 (i : Int), .int .i64 (-1)] 92)
   have HS4 := am (HSG.out.fz HF4.out)
   have HX4 := am hx
   have HZ4 := am (blk_new wr (.cells #[.int .i64 (i : Int), .int .i64 (-1)] 92))
   obtain ⟨AH, cH, AC, cC, q0, q1, qH, qC⟩ := HS4.out.reads
   obtain ⟨adC, A1, c1, rfl, q2, q3, q4⟩ := qC i (by rw [costs_len]; exact hiH)
   rw [hce, List.length_map, ← hn] at q2 q3 q4
   rw [costs_len] at q1
   replace q1 := pw_cell_below hx q1
   replace q2 := pw_cell_below hx q2
   obtain ⟨ad1, rfl, qz⟩ := at_ints q4 (by rw [List.length_map, hn]) 0 (by rw [List.length_map, ← hn]; exact HNP.out)
   clear qz
   have HCR := am q4
   have p0 : 0 ≤ (i : Int) := by omega
   have p1 : (i : Int) < (H.length : Int) := by omega
   replace p0 := eq_true p0
   replace p1 := eq_true p1
   have HN7 := am (show n ≤ 7 by
    rw [hn, hhr, show H.getD i [] = H[i] by simp [List.getD_eq_getElem?_getD, hiH]]
    exact HM7.out _ (List.getElem_mem _))
   obtain ⟨FF, hF⟩ : ∃ FF : Nat → Int, FF = (fun j => lst (hr.getD j 0) hs + pre (prv none B i) (hr.getD j 0)) := ⟨_, rfl⟩
   have HFE := am hF
   clear hhr hhs hfu hcr hn hci hce hx q0 q3 q4 qH qC hF
   obtain ⟨wo, rfl⟩ : ∃ wo : World, wo = wr := ⟨_, rfl⟩
   go_wp2_with fail
   go_loopg [39, 9] n (fun kq v39 v9 w' => ∃ q : Nat, v39 = .int .i64 (q : Int) ∧ v9 = .int .i64 (pJ FF q).2 ∧ Aside0 (kq + q = n) ∧ Aside0 (w'.heap[wo.heap.size]? = some (.cells #[.int .i64 (i : Int), .int .i64 (pJ FF q).1] 92 (0, 0))) ∧ Aside0 (Below wo.heap.size wo w'))
   case atStart => exact ⟨0, rfl, rfl, ⟨by omega⟩, HZ4, HX4⟩
   case round =>
    obtain ⟨q, rfl, rfl, HQ, HZ5, HX5⟩ := hrel
    clear HZ4 HX4 q1 q2
    by_cases hq : q < n
    ·obtain ⟨u, lq, hpq⟩ : ∃ u lq, pJ FF q = (u, lq) := ⟨_, _, rfl⟩
     have HSTEP := am (show pJ FF (q + 1) = if u < 0 ∨ FF q < lq then ((q : Int), FF q) else (u, lq) by simp only [pJ, hpq])
     rw [hpq] at HZ5 ⊢
     dsimp only at HZ5 ⊢
     clear hpq
     have hqr : q < hr.length := by rw [← HN.out]; exact hq
     have hgd : hr.getD q 0 = hr[q] := by simp [List.getD_eq_getElem?_getD, hqr]
     obtain ⟨adx, ex, q10⟩ := at_ints (Kd.C_below HCR.out HX5.out) (by rw [List.length_map, HN.out]) q (by rw [List.length_map]; exact hqr)
     obtain rfl : ad1 = adx := by injection ex
     rw [List.getElem_map, ← hgd] at q10
     clear ex
     obtain ⟨yh, hyh⟩ : ∃ yh, yh = hr.getD q 0 := ⟨_, rfl⟩
     have HYH := am hyh
     rw [← hyh] at q10 hgd
     obtain ⟨cst, hcst⟩ : ∃ cst, cst = lst yh hs := ⟨_, rfl⟩
     rw [← hcst] at q10
     have hx12 := below_alloc (Below.refl wr.heap.size wr) (.cells #[.int .i64 (i : Int), .int .i64 (q : Int)] 92)
     have HX6 := am (below_step HX5.out hx12)
     have HZ6 := am (blk_below HZ5.out hx12)
     have HZ12 := am (blk_new wr (.cells #[.int .i64 (i : Int), .int .i64 (q : Int)] 92))
     have p2 : 0 ≤ (q : Int) := by omega
     have p3 : (q : Int) < (n : Int) := by omega
     replace p2 := eq_true p2
     replace p3 := eq_true p3
     have hcb := lst_bd hs HFH.out.tail yh
     have hcb2 := lst_le_len hs HFH.out.tail yh
     rw [← hcst] at hcb hcb2
     have hsl : hs.length ≤ 24 := by rw [HHS.out, List.length_drop]; have := HHL.out; omega
     have HCB := am (show 0 ≤ cst ∧ cst ≤ 24 by omega)
     have HCS := am hcst
     have hn7 := HN7.out
     have HGD := am (show hr[q]? = some yh by rw [List.getElem?_eq_getElem hqr, ← hgd])
     clear hx12 hcst hcb hcb2 hsl hgd hqr hyh HX5 HZ5
     by_cases hi0 : i = 0
     ·have b2 : decide ((i : Int) > 0) = false := decide_eq_false (by omega)
      have b2' : decide (0 < i) = false := decide_eq_false (by omega)
      have HCE0 := am (show cst = FF q by
       rw [HFE.out, hi0]
       show cst = lst (hr.getD q 0) hs + 0
       rw [← HYH.out, ← HCS.out]
       omega)
      clear hi0
      go_upto_region 19 with fail
      generalize wr.alloc (.cells #[.int .i64 (i : Int), .int .i64 (q : Int)] 92) = W at HX6 HZ6 HZ12 ⊢
      obtain ⟨b12, hb12⟩ : ∃ b12, b12 = wr.heap.size := ⟨_, rfl⟩
      rw [← hb12] at HZ12 ⊢
      obtain ⟨c, hc⟩ : ∃ c, c = cst := ⟨_, rfl⟩
      have HCE := am (hc.trans HCE0.out)
      rw [← hc]
      have HZ8 := HZ6
      have HXW := HX6
      clear hb12 hc HCE0 q10 b2 b2' HZ6 HX6
      have k80 := blk_cell HZ8.out 0
      have k81 := blk_cell HZ8.out 1
      have k8f := fun i => blk_frozen HZ8.out i
      have k90 := blk_cell HZ12.out 0
      have k91 := blk_cell HZ12.out 1
      simp only [List.getElem?_toArray, List.getElem?_cons_zero, List.getElem?_cons_succ] at k80 k81 k90 k91
      have nn := blk_lt HZ8.out
      by_cases hu0 : u < 0
      ·have b3 : decide (u < 0) = true := decide_eq_true hu0
       have HU0 := am hu0
       clear hu0
       go_wp2_with fail
       go_roundg (n - (q + 1))
       case measure => have := HQ.out; omega
       case rel =>
        have hz1 := blk_put HZ8.out 0 (.int .i64 (i : Int)) rfl
        refine ⟨q + 1, by simp, ?_, ⟨by have := HQ.out; omega⟩, ⟨?_⟩, ⟨below_set (below_set HXW.out (Nat.le_refl _)) (Nat.le_refl _)⟩⟩
        ·rw [HSTEP.out, if_pos (.inl HU0.out), ← HCE.out]
        ·rw [HSTEP.out, if_pos (.inl HU0.out)]
         exact blk_put hz1 1 (.int .i64 (q : Int)) rfl
      have b3 : decide (u < 0) = false := decide_eq_false hu0
      have HU0 := am hu0
      clear hu0
      by_cases hc0 : c < lq
      ·have b4 : decide (c < lq) = true := decide_eq_true hc0
       have HC0' := am hc0
       clear hc0
       go_wp2_with fail
       go_roundg (n - (q + 1))
       case measure => have := HQ.out; omega
       case rel =>
        have hz1 := blk_put HZ8.out 0 (.int .i64 (i : Int)) rfl
        refine ⟨q + 1, by simp, ?_, ⟨by have := HQ.out; omega⟩, ⟨?_⟩, ⟨below_set (below_set HXW.out (Nat.le_refl _)) (Nat.le_refl _)⟩⟩
        ·rw [HSTEP.out, if_pos (.inr (by rw [← HCE.out]; exact HC0'.out)), ← HCE.out]
        ·rw [HSTEP.out, if_pos (.inr (by rw [← HCE.out]; exact HC0'.out))]
         exact blk_put hz1 1 (.int .i64 (q : Int)) rfl
      have b4 : decide (c < lq) = false := decide_eq_false hc0
      have HC0' := am hc0
      clear hc0
      go_wp2_with fail
      go_roundg (n - (q + 1))
      case measure => have := HQ.out; omega
      case rel =>
       have hno : ¬ (u < 0 ∨ FF q < lq) := by rw [← HCE.out]; have h1 := HU0.out; have h2 := HC0'.out; omega
       refine ⟨q + 1, by simp, ?_, ⟨by have := HQ.out; omega⟩, ⟨?_⟩, HXW⟩
       ·rw [HSTEP.out, if_neg hno]
       ·rw [HSTEP.out, if_neg hno]
        exact HZ8.out
     have b2 : decide ((i : Int) > 0) = true := decide_eq_true (by omega)
     have b2' : decide (0 < i) = true := decide_eq_true (by omega)
     obtain ⟨i', hi'⟩ : ∃ i', i = i' + 1 := ⟨i - 1, by omega⟩
     have hat := HAT.out
     rw [hi'] at hat
     obtain ⟨rfl, j6, rfl, hj6, hbj⟩ := hat
     have HI' := am hi'
     obtain ⟨xb, hxb⟩ : ∃ xb, xb = B.getD i' 0 := ⟨_, rfl⟩
     rw [← hxb] at hbj
     have HJ6 := am (And.intro hj6 hbj)
     have HCE0 := am (show cst + chg xb yh = FF q by
      rw [HFE.out, hi']
      show cst + chg xb yh = lst (hr.getD q 0) hs + chg (B.getD i' 0) (hr.getD q 0)
      rw [← HYH.out, ← HCS.out, ← hxb])
     have HAW := am (blk_below (blk_below HA6.out (bh_sub HX6.out)) (Below.refl _ _))
     have k60 := blk_cell HAW.out 0
     have k61 := blk_cell HAW.out 1
     have k120 := blk_cell HZ12.out 0
     have k121 := blk_cell HZ12.out 1
     simp only [List.getElem?_toArray, List.getElem?_cons_zero, List.getElem?_cons_succ] at k60 k61 k120 k121
     clear hi0 hi' hj6 hbj hxb
     go_wp2_with fail
     refine (changes_any B1 gs H _ i' j6 i q (H.getD i' []) hr xb yh _ (HS4.out.below (bh_sub HX6.out)) ?_ ?_ ?_ HGD.out (i : Int) rfl).mono ?_
     ·have h1 := HI'.out
      have h2 : i' < H.length := by omega
      simp [List.getD_eq_getElem?_getD, h2]
     ·have h2 : i < H.length := hiH
      rw [HHR.out]
      simp [List.getD_eq_getElem?_getD, h2]
     ·have h3 := HJ6.out.1
      rw [← HJ6.out.2, List.getD_eq_getElem?_getD (l := H.getD i' []), List.getElem?_eq_getElem h3, Option.getD_some]
     rintro e W ⟨rfl, hbW⟩
     have HXW := am (below_step HX6.out hbW)
     have HZ8 := am (blk_below HZ6.out hbW)
     have HZ12' := am (blk_below HZ12.out hbW)
     clear hbW HX6 HZ6 HZ12 HAW k60 k61 k120 k121
     have HZ12 := HZ12'
     clear HZ12'
     go_upto_region 19 with fail
     obtain ⟨b12, hb12⟩ : ∃ b12, b12 = wr.heap.size := ⟨_, rfl⟩
     rw [← hb12] at HZ12 ⊢
     obtain ⟨c, hc⟩ : ∃ c, c = cst + chg xb yh := ⟨_, rfl⟩
     have HCE := am (hc.trans HCE0.out)
     have hcc := chg_bd xb yh
     have hcb := HCB.out
     rw [show wrap64 (cst + chg xb yh) = c by rw [← hc]; unfold wrap64; omega]
     clear hb12 hc HCE0 q10 b2 b2' hcc hcb
     have k80 := blk_cell HZ8.out 0
     have k81 := blk_cell HZ8.out 1
     have k8f := fun i => blk_frozen HZ8.out i
     have k90 := blk_cell HZ12.out 0
     have k91 := blk_cell HZ12.out 1
     simp only [List.getElem?_toArray, List.getElem?_cons_zero, List.getElem?_cons_succ] at k80 k81 k90 k91
     have nn := blk_lt HZ8.out
     by_cases hu0 : u < 0
     ·have b3 : decide (u < 0) = true := decide_eq_true hu0
      have HU0 := am hu0
      clear hu0
      go_wp2_with fail
      go_roundg (n - (q + 1))
      case measure => have := HQ.out; omega
      case rel =>
       have hz1 := blk_put HZ8.out 0 (.int .i64 (i : Int)) rfl
       refine ⟨q + 1, by simp, ?_, ⟨by have := HQ.out; omega⟩, ⟨?_⟩, ⟨below_set (below_set HXW.out (Nat.le_refl _)) (Nat.le_refl _)⟩⟩
       ·rw [HSTEP.out, if_pos (.inl HU0.out), ← HCE.out]
       ·rw [HSTEP.out, if_pos (.inl HU0.out)]
        exact blk_put hz1 1 (.int .i64 (q : Int)) rfl
     have b3 : decide (u < 0) = false := decide_eq_false hu0
     have HU0 := am hu0
     clear hu0
     by_cases hc0 : c < lq
     ·have b4 : decide (c < lq) = true := decide_eq_true hc0
      have HC0' := am hc0
      clear hc0
      go_wp2_with fail
      go_roundg (n - (q + 1))
      case measure => have := HQ.out; omega
      case rel =>
       have hz1 := blk_put HZ8.out 0 (.int .i64 (i : Int)) rfl
       refine ⟨q + 1, by simp, ?_, ⟨by have := HQ.out; omega⟩, ⟨?_⟩, ⟨below_set (below_set HXW.out (Nat.le_refl _)) (Nat.le_refl _)⟩⟩
       ·rw [HSTEP.out, if_pos (.inr (by rw [← HCE.out]; exact HC0'.out)), ← HCE.out]
       ·rw [HSTEP.out, if_pos (.inr (by rw [← HCE.out]; exact HC0'.out))]
        exact blk_put hz1 1 (.int .i64 (q : Int)) rfl
     have b4 : decide (c < lq) = false := decide_eq_false hc0
     have HC0' := am hc0
     clear hc0
     go_wp2_with fail
     go_roundg (n - (q + 1))
     case measure => have := HQ.out; omega
     case rel =>
      have hno : ¬ (u < 0 ∨ FF q < lq) := by rw [← HCE.out]; have h1 := HU0.out; have h2 := HC0'.out; omega
      refine ⟨q + 1, by simp, ?_, ⟨by have := HQ.out; omega⟩, ⟨?_⟩, HXW⟩
      ·rw [HSTEP.out, if_neg hno]
      ·rw [HSTEP.out, if_neg hno]
       exact HZ8.out
    have eqn : n = q := by have := HQ.out; omega
    subst eqn
    obtain ⟨j, hj0, hj1, hj2⟩ := pJ_best (prv none B i) HFH.out
    rw [← HFE.out, ← HN.out] at hj1
    rw [hj1] at HZ5
    have hbi : hr.getD j 0 = B.getD i 0 := by
     have e1 := best_at H none i hiH
     rw [← HBE.out, ← HHR.out, ← HHS.out] at e1
     rw [hj2, e1]
    have HJ := am (And.intro hj0 hbi)
    have hx5 := HX5.out
    have hA5 := blk_below HA6.out hx5
    have hlt6 := blk_lt HA6.out
    have n1 : w2.heap.size ≠ wo.heap.size := Nat.ne_of_lt hlt6
    have n2 : wo.heap.size ≠ w2.heap.size := Nat.ne_of_gt hlt6
    have k80 := blk_cell HZ5.out 0
    have k81 := blk_cell HZ5.out 1
    have kf := fun i => blk_frozen hA5 i
    have k60 := blk_cell hA5 0
    have k61 := blk_cell hA5 1
    simp only [List.getElem?_toArray, List.getElem?_cons_zero, List.getElem?_cons_succ] at k80 k81 k60 k61
    have hk3 : ∀ q, q ∈ 3 :: (Kd.int .i64).E → q ≠ 92 := fun q hq => by
     rcases List.mem_cons.1 hq with rfl | hq
     ·decide
     ·exact absurd hq (List.not_mem_nil)
    have hA7 := blk_put hA5 0 (.int .i64 (i : Int)) rfl
    have hA8 := blk_put (cs' := #[.int .i64 (i : Int), .int .i64 (j : Int)]) hA7 1 (.int .i64 (j : Int)) rfl
    have hL7 := Kd.R_set (Kd.R_below HL4.out hx5) hA5 hk3 0 (.int .i64 (i : Int))
    have HA8 := am (blk_drew hA8)
    have HL8 := am (Kd.R_drew (Kd.R_set hL7 hA7 hk3 1 (.int .i64 (j : Int))))
    have HF8 := am ((((HF4.out.below hx5).set (Nat.le_refl _) 0 (.int .i64 (i : Int))).set (Nat.le_refl _) 1 (.int .i64 (j : Int))).below (below_drew1 (Below.refl _ _)))
    have HB8 := am (below_drew1 (below_set (j := 1) (v := .int .i64 (j : Int)) (below_set (j := 0) (v := .int .i64 (i : Int)) (below_step HB4.out hx5) HWB.out) HWB.out))
    obtain ⟨AH2, cH, AC2, cC2, r0, r5, rH, rC⟩ := (HSG.out.fz HF8.out).reads
    obtain ⟨adH, Ar, cr, rfl, r1, r6, r7⟩ := rH i hiH
    have hHi : H[i] = hr := by rw [HHR.out]; simp [List.getD_eq_getElem?_getD, hiH]
    rw [hHi, ← HN.out] at r1 r6 r7
    have hjr : j < hr.length := hj0
    obtain ⟨adr, rfl, r2⟩ := at_ints r7 HN.out j hjr
    rw [show hr[j] = B.getD i 0 by rw [← hbi, List.getD_eq_getElem?_getD, List.getElem?_eq_getElem hjr, Option.getD_some]] at r2
    have r3 := blk_cell HA8.out 1
    simp only [List.getElem?_toArray, List.getElem?_cons_zero, List.getElem?_cons_succ] at r3
    have p2 : 0 ≤ (j : Int) := by omega
    have p3 : (j : Int) < (n : Int) := by have := HN.out; omega
    replace p2 := eq_true p2
    replace p3 := eq_true p3
    clear r5 r6 r7 rH rC hHi hj0 hj1 hj2 hbi hA7 hA8 hL7 hx5 hk3 hq HQ hjr
    obtain ⟨bi, hbiE⟩ : ∃ bi, bi = B.getD i 0 := ⟨_, rfl⟩
    rw [← hbiE] at r2
    have HBI := am hbiE
    clear hbiE
    go_wp2_with fail
    clear k80 k81 k60 k61 kf n1 n2 hA5 hlt6
    obtain ⟨w9, hw9⟩ : ∃ w9, w9 = (wr.setCell ⟨w2.heap.size, 0, none⟩ (.int .i64 (i : Int))).setCell ⟨w2.heap.size, 1, none⟩ (.int .i64 (j : Int)) := ⟨_, rfl⟩
    rw [← hw9] at HA8 HL8 HF8 HB8 r0 r1 r2 r3 ⊢
    clear hw9 HX5 HZ5
    refine start_ (n := 15) (S := fun w' => w'.cell? ⟨gs, 0, none⟩ = some (.slice (some adH) H.length cH) ∧ w'.cell? (adH.add i) = some (.slice (some adr) n cr) ∧ w'.cell? (adr.add j) = some (.int .i64 bi) ∧ w'.cell? ⟨w2.heap.size, 1, none⟩ = some (.int .i64 (j : Int))) (ds := [13]) #[F,F,F,F,F,F,F,F,F,F,F,F,F,F,F] (by kernel_rfl) rfl rfl ⟨r0, r1, r2, r3⟩ (fun hHeld => ?_)
    clear r0 r1 r2 r3
    generalize w9.drew = wd at HF8 HL8 HA8 HB8 hHeld ⊢
    refine pz 0 (some 67) #[T,F,F,F,F,F,F,F,F,F,F,F,F,F,F] (by kernel_rfl) (h := ?_)
    refine pz 1 (some 68) #[T,T,F,F,F,F,F,F,F,F,F,F,F,F,F] (by kernel_rfl) (h := ?_)
    refine pz 2 (some 69) #[T,T,T,F,F,F,F,F,F,F,F,F,F,F,F] (by kernel_rfl) (h := ?_)
    refine pz 3 (some 70) #[T,T,T,T,F,F,F,F,F,F,F,F,F,F,F] (by kernel_rfl) (h := ?_)
    refine pz 5 (some 72) #[T,T,T,T,F,T,F,F,F,F,F,F,F,F,F] (by kernel_rfl) (h := ?_)
    refine pz 8 (some 75) #[T,T,T,T,F,T,F,F,T,F,F,F,F,F,F] (by kernel_rfl) (h := ?_)
    refine tz hHeld 4 (some 71) #[T,T,T,T,T,T,F,F,T,F,F,F,F,F,F] (by kernel_rfl) (h := ?_)
    refine pz 6 (some 73) #[T,T,T,T,T,T,T,F,T,F,F,F,F,F,F] (by kernel_rfl) (h := ?_)
    refine tz hHeld 7 (some 74) #[T,T,T,T,T,T,T,T,T,F,F,F,F,F,F] (by kernel_rfl) (h := ?_)
    refine tz hHeld 9 (some 76) #[T,T,T,T,T,T,T,T,T,T,F,F,F,F,F] (by kernel_rfl) (h := ?_)
    refine pz 10 (some 77) #[T,T,T,T,T,T,T,T,T,T,T,F,F,F,F] (by kernel_rfl) (h := ?_)
    refine tz hHeld 11 (some 78) #[T,T,T,T,T,T,T,T,T,T,T,T,F,F,F] (by kernel_rfl) (h := ?_)
    refine one_ (i := 12) (N := some 79) #[T,T,T,T,T,T,T,T,T,T,T,T,T,F,F] rfl rfl (by kernel_rfl) (by decide) (fun K hK => ?_)
    refine value_ (w1 := ?_) (v := ?_) (by rfl) rfl ?_ ?_
    rotate_left 2
    ·go_simp
     constructor
     ·rfl
     ·rfl
    refine hK.out _ _ ⟨pw_cell_below (below_alloc (Below.refl _ _) _) hHeld.1, pw_cell_below (below_alloc (Below.refl _ _) _) hHeld.2.1, pw_cell_below (below_alloc (Below.refl _ _) _) hHeld.2.2.1, pw_cell_below (below_alloc (Below.refl _ _) _) hHeld.2.2.2⟩ (fun hHeld => ?_)
    clear hK K
    refine norm_ (a' := ?_) ?_ ?_
    rotate_left
    ·show Act.put _ (some 79) _ = _
     simp only [Act.put, sA, sZ, sS, i64_w, i32_w]
     rfl
    refine last_ (i := 13) (N := some 80) #[T,T,T,T,T,T,T,T,T,T,T,T,T,T,F] rfl rfl (by kernel_rfl) (by decide) (fun K hK => ?_)
    refine Kd.R_append_step (Kd.int .i64) (w0 := w) w.heap.size (by rfl) (.tmp 67) (.tmp 79) 28 3 (.int .i64 0) 8 rfl Tryz.underlying28 infoI rfl (by decide) (by omega) u4 (B.take i) bi [.int .i64 bi] (fun k => k < B1 ∨ w2.heap.size ≤ k) (fun _ => False) rfl rfl ?aP (fun _ hk => hk.elim) ?aF ?aO ?aB ?aS ?aL ?_
    (case aP => exact rfl)
    (case aB => exact HB8.out)
    (case aF => exact (fun k hk => .inr (Nat.le_trans HF8.out.1 hk)))
    (case aO => exact HL8.out)
    (case aS => exact (below_size HB8.out))
    (case aL => rw [List.length_take]; omega)
    intro v1 w11 ho hb hg hat
    have HF9 := am (HF8.out.grown hg (fun k hk => HL8.out.1 k hk))
    have HA9 := am (blk_grown HA8.out hg (Kd.R_ne HL8.out HA8.out (by decide)))
    have HL9 := am ho
    have HB9 := am hb
    clear ho hb hg hat
    refine hK.out _ _ ?_
    clear hK K
    refine norm_ (a' := ?_) ?_ ?_
    rotate_left
    ·show Act.put _ (some 80) _ = _
     simp only [Act.put, sA, sZ, sS, i64_w, i32_w]
     rfl
    refine pz 14 (some 4) #[T,T,T,T,T,T,T,T,T,T,T,T,T,T,T] (by kernel_rfl) (h := ?_)
    refine done_ (by kernel_rfl) ?_
    clear hHeld
    go_wp2_with fail
    go_roundg (l0.length - (i + 1))
    case measure => have := HI.out; omega
    case rel =>
     refine ⟨i + 1, by simp, ⟨by have := HI.out; omega⟩, ⟨?_⟩, HF9, ⟨_, _, HA9.out, rfl, j, rfl, by rw [← HHR.out]; exact HJ.out.1, by rw [← HHR.out]; exact HJ.out.2⟩, HB9⟩
     have hib : i < B.length := by rw [HBE.out, best_len]; exact hiH
     rw [List.take_succ_eq_append_getElem hib, show B[i] = bi by rw [HBI.out]; simp [List.getD_eq_getElem?_getD, hib]]
     exact HL9.out
  have ei : i = l0.length := by have := HI.out; omega
  subst ei
  go_wp2_with fail
  go_ret2
  refine ⟨_, rfl, ?_, HB4.out⟩
  have h5 := HL4.out
  rw [List.take_of_length_le (by rw [HBE.out, best_len, HHL.out]; exact Nat.le_refl _), HBR.out] at h5
  exact Kd.R_mono h5 (fun _ _ => trivial)


end Go.Proofs.YtjnkmckklmabcaaGreatDoor.XL
