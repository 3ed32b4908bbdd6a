import Derived.Test.YtkdlfnakbilhjaaGreatDoorXKx0
import Derived.Test.YtkdlfnakbilhjaaGreatDoorXKx2
import Derived.Carry
import Derived.ChangeOld
import Derived.WalkSmall
import Derived.OpenShut
import Derived.ChangeVars
import Derived.MakeChecks
import Derived.LaidMore
import Derived.FnData
import Derived.ChangeArms
import Derived.HandedShaped
import Derived.Shelf.Vars
namespace Go.Proofs.YtkdlfnakbilhjaaGreatDoor.LDoorXK
open Go.RowKit Go.Proofs.YtkdlfnakbilhjaaGreatDoor.XK Go.Proofs.YtkdlfnakbilhjaaGreatDoorW.PrintWords Go.Proofs.YtkdlfnakbilhjaaGreatDoorW.PrintLast Go.Proofs.YtkdlfnakbilhjaaGreatDoorW.PrintMore 
set_option linter.unusedVariables false
set_option linter.unusedSimpArgs false
theorem laid_mem {P : Program} {W : World} : ∀ {laid : List (String × DataW Unit)} {ps : List MemPlace}, DataW.LaidVars P W laid ps → ∀ n d, (n, d) ∈ laid →
    ∃ g t cs f p, P.globalNamed n = some g ∧ (P.globals[g]?).map (·.type) = some t ∧ W.var? P n = some cs ∧ DataW.trod (fun _ => ()) P W 0 (fun _ => true) false f t cs.toList = some (d, p)
  | [], _, _, _, _, hm => by cases hm
  | (m, e) :: r, ps, h, n, d, hm => by
    obtain ⟨g, t, cs, f, p, q, h1, h2, h3, h4, hs, _⟩ := h
    cases hm with
    | head => exact ⟨g, t, cs, f, p, h1, h2, h3, h4⟩
    | tail _ hm => exact laid_mem hs n d hm
theorem strs_of {P : Program} {W : World} {f : Nat} {t e : TypeId} {m : Nat} {cs : Array Value} {p : List MemPlace} {ss : List (List UInt8)} (ht : P.underlying t = some (.array m e)) (he : P.underlying e = some .string) (hc : P.cellsOf e = 1)
    (hd : DataW.trod (fun _ => ()) P W 0 (fun _ => true) false f t cs.toList = some (.agg (ss.map fun s => .lit (.string s)), p)) (i : Nat) (v : Value) (hv : (ss.map fun s => Value.string ⟨s.toArray⟩)[i]? = some v) : cs[i]? = some v := by
  obtain ⟨xs, k, rfl, hx, _, hn, hel⟩ := DataW.trod_array ht hd
  simp only [Prod.mk.injEq, DataW.agg.injEq] at hx
  have hx1 := hx.1
  rw [List.getElem?_map] at hv
  obtain ⟨s, hs, rfl⟩ := Option.map_eq_some_iff.1 hv
  have hi : i < ss.length := (List.getElem?_eq_some_iff.1 hs).1
  have hlen : ss.length = xs.length := by have := congrArg List.length hx1; simpa using this
  have h0 := hel i (by omega)
  rw [hc, Nat.mul_one] at h0
  have hxi : xs[i]? = some xs[i] := List.getElem?_eq_getElem (by omega)
  rw [hxi] at h0
  obtain ⟨b, e1, e2, _⟩ := DataW.trod_string he h0
  have e3 : (DataW.lit (.string s) : DataW Unit) = xs[i].1 := by
    have := congrArg (fun l => l[i]?) hx1
    simp only [List.getElem?_map, hs, hxi, Option.map_some] at this
    exact Option.some.inj this
  rw [e2] at e3
  simp only [DataW.lit.injEq, Lit.string.injEq] at e3
  have e4 : (List.take 1 (List.drop i cs.toList))[0]? = some (.string b) := by rw [e1]; rfl
  simp at e4
  rw [e4]
  have : b = ⟨s.toArray⟩ := by rw [e3]
  rw [this]
theorem ints_of {P : Program} {W : World} {f : Nat} {t e : TypeId} {m : Nat} {cs : Array Value} {p : List MemPlace} {ss : List Int} (ht : P.underlying t = some (.array m e)) (he : P.underlying e = some (.int .i64)) (hc : P.cellsOf e = 1)
    (hd : DataW.trod (fun _ => ()) P W 0 (fun _ => true) false f t cs.toList = some (.agg (ss.map fun s => .lit (.int .i64 s)), p)) (i : Nat) (v : Value) (hv : (ss.map fun s => Value.int .i64 s)[i]? = some v) : cs[i]? = some v := by
  obtain ⟨xs, k, rfl, hx, _, hn, hel⟩ := DataW.trod_array ht hd
  simp only [Prod.mk.injEq, DataW.agg.injEq] at hx
  have hx1 := hx.1
  rw [List.getElem?_map] at hv
  obtain ⟨s, hs, rfl⟩ := Option.map_eq_some_iff.1 hv
  have hi : i < ss.length := (List.getElem?_eq_some_iff.1 hs).1
  have hlen : ss.length = xs.length := by have := congrArg List.length hx1; simpa using this
  have h0 := hel i (by omega)
  rw [hc, Nat.mul_one] at h0
  have hxi : xs[i]? = some xs[i] := List.getElem?_eq_getElem (by omega)
  rw [hxi] at h0
  obtain ⟨b, e1, e2, _⟩ := DataW.trod_int he h0
  have e3 : (DataW.lit (.int .i64 s) : DataW Unit) = xs[i].1 := by
    have := congrArg (fun l => l[i]?) hx1
    simp only [List.getElem?_map, hs, hxi, Option.map_some] at this
    exact Option.some.inj this
  rw [e2] at e3
  simp only [DataW.lit.injEq, Lit.int.injEq, true_and] at e3
  have e4 : (List.take 1 (List.drop i cs.toList))[0]? = some (.int .i64 b) := by rw [e1]; rfl
  simp at e4
  rw [e4, e3]
theorem met_mem {P : Program} {W : World} {laid : List (String × DataW Unit)} (hp : (laid.all fun x => x.2.handleName?.isNone) = true) (h : laidMetH P laid W) (n : String) (d : DataW Unit) (hm : (n, d) ∈ laid) :
    ∃ g t cs f p, P.globalNamed n = some g ∧ (P.globals[g]?).map (·.type) = some t ∧ W.var? P n = some cs ∧ DataW.trod (fun _ => ()) P W 0 (fun _ => true) false f t cs.toList = some (d, p) := by
  rw [MakeChecks.laidMetH_plain _ _ _ hp] at h
  obtain ⟨ps, h, _, _⟩ := h
  exact laid_mem h n d hm
theorem tab_strs {P : Program} {W : World} {laid : List (String × DataW Unit)} {n : String} {g : Nat} {t e : TypeId} {m : Nat} {ss : List (List UInt8)} (hp : (laid.all fun x => x.2.handleName?.isNone) = true) (h : laidMetH P laid W) (hm : (n, DataW.agg (ss.map fun s => DataW.lit (.string s))) ∈ laid)
    (hg : P.globalNamed n = some g) (hty : (P.globals[g]?).map (·.type) = some t) (ht : P.underlying t = some (.array m e)) (he : P.underlying e = some .string) (hc : P.cellsOf e = 1) : TabAt g (ss.map fun s => Value.string ⟨s.toArray⟩) W := fun i v hv => by
  obtain ⟨g', t', cs, f, p, h1, h2, h3, h4⟩ := met_mem hp h n _ hm
  obtain rfl := Option.some.inj (hg.symm.trans h1)
  obtain rfl := Option.some.inj (hty.symm.trans h2)
  rw [World.var?_cell hg h3 i]
  exact strs_of ht he hc h4 i v hv
theorem tab_ints {P : Program} {W : World} {laid : List (String × DataW Unit)} {n : String} {g : Nat} {t e : TypeId} {m : Nat} {ss : List Int} (hp : (laid.all fun x => x.2.handleName?.isNone) = true) (h : laidMetH P laid W) (hm : (n, DataW.agg (ss.map fun s => DataW.lit (.int .i64 s))) ∈ laid)
    (hg : P.globalNamed n = some g) (hty : (P.globals[g]?).map (·.type) = some t) (ht : P.underlying t = some (.array m e)) (he : P.underlying e = some (.int .i64)) (hc : P.cellsOf e = 1) : TabAt g (ss.map fun s => Value.int .i64 s) W := fun i v hv => by
  obtain ⟨g', t', cs, f, p, h1, h2, h3, h4⟩ := met_mem hp h n _ hm
  obtain rfl := Option.some.inj (hg.symm.trans h1)
  obtain rfl := Option.some.inj (hty.symm.trans h2)
  rw [World.var?_cell hg h3 i]
  exact ints_of ht he hc h4 i v hv
def lit4 (s : Int × Int × Int × Int) : List Int := [s.1, s.2.1, s.2.2.1, s.2.2.2]
theorem rows4_of {P : Program} {W : World} {f : Nat} {t e ti : TypeId} {m : Nat} {cs : Array Value} {p : List MemPlace} {ss : List (Int × Int × Int × Int)} {fs : Array Field} (ht : P.underlying t = some (.array m e)) (he : P.underlying e = some (.struct fs)) (hf : ∀ j, j < 4 → ∃ fld, fs[j]? = some fld ∧ fld.type = ti ∧ fld.offset = j) (hc4 : P.cellsOf e = 4) (hti : P.underlying ti = some (.int .i64)) (hci : P.cellsOf ti = 1)
    (hd : DataW.trod (fun _ => ()) P W 0 (fun _ => true) false f t cs.toList = some (.agg (ss.map fun s => .agg ((lit4 s).map fun x => .lit (.int .i64 x))), p)) (q j : Nat) (hq : q < ss.length) (hj : j < 4) : cs[q * 4 + j]? = some (.int .i64 ((lit4 ss[q]).getD j 0)) := by
  obtain ⟨xs, k, rfl, hx, _, hn, hel⟩ := DataW.trod_array ht hd
  simp only [Prod.mk.injEq, DataW.agg.injEq] at hx
  have hx1 := hx.1
  have hlen : ss.length = xs.length := by have := congrArg List.length hx1; simpa using this
  have h0 := hel q (by omega)
  rw [hc4, List.getElem?_eq_getElem (show q < xs.length by omega)] at h0
  obtain ⟨ys, k2, _, hy, _, hyl, hg⟩ := DataW.trod_struct he h0
  have hyd : ys.map (·.1) = (lit4 ss[q]).map (fun x => (DataW.lit (.int .i64 x) : DataW Unit)) := by
    have h1 := congrArg (fun l => l[q]?) hx1
    simp only [List.getElem?_map, List.getElem?_eq_getElem hq, List.getElem?_eq_getElem (show q < xs.length by omega), Option.map_some] at h1
    have h2 := Option.some.inj h1
    rw [hy] at h2
    simp only [DataW.agg.injEq] at h2
    exact h2.symm
  have hyl4 : ys.length = 4 := by have := congrArg List.length hyd; simpa [lit4] using this
  obtain ⟨fld, hfj, hft, hfo⟩ := hf j hj
  have h1 := hg j fld hfj
  rw [hft, hfo, hci, List.getElem?_eq_getElem (show j < ys.length by omega)] at h1
  obtain ⟨n, e1, e2, _⟩ := DataW.trod_int hti h1
  have e3 : (lit4 ss[q]).getD j 0 = n := by
    have h3 := congrArg (fun l => l[j]?) hyd
    simp only [List.getElem?_map, List.getElem?_eq_getElem (show j < ys.length by omega), Option.map_some, e2] at h3
    have hjl : j < (lit4 ss[q]).length := hj
    rw [List.getElem?_eq_getElem hjl] at h3
    simp only [Option.map_some, Option.some.injEq, DataW.lit.injEq, Lit.int.injEq, true_and] at h3
    rw [List.getD_eq_getElem?_getD, List.getElem?_eq_getElem hjl, Option.getD_some]
    exact h3.symm
  have e4 := congrArg (fun l => l[0]?) e1
  simp only [List.getElem?_take, List.getElem?_drop, Nat.add_zero, List.getElem?_cons_zero] at e4
  rw [if_pos (by omega), if_pos hj] at e4
  rw [e3, ← e4, Array.getElem?_toList]
theorem tab_rows4 {P : Program} {W : World} {laid : List (String × DataW Unit)} {n : String} {g : Nat} {t e ti : TypeId} {m : Nat} {fs : Array Field} {ss : List (Int × Int × Int × Int)} (hp : (laid.all fun x => x.2.handleName?.isNone) = true) (h : laidMetH P laid W) (hm : (n, DataW.agg (ss.map fun s => DataW.agg ((lit4 s).map fun x => DataW.lit (.int .i64 x)))) ∈ laid)
    (hg : P.globalNamed n = some g) (hty : (P.globals[g]?).map (·.type) = some t) (ht : P.underlying t = some (.array m e)) (he : P.underlying e = some (.struct fs)) (hf : ∀ j, j < 4 → ∃ fld, fs[j]? = some fld ∧ fld.type = ti ∧ fld.offset = j) (hc4 : P.cellsOf e = 4) (hti : P.underlying ti = some (.int .i64)) (hci : P.cellsOf ti = 1) (q j : Nat) (hq : q < ss.length) (hj : j < 4) : W.cell? ⟨g, q * 4 + j, none⟩ = some (.int .i64 ((lit4 ss[q]).getD j 0)) := by
  obtain ⟨g', t', cs, f, p, h1, h2, h3, h4⟩ := met_mem hp h n _ hm
  obtain rfl := Option.some.inj (hg.symm.trans h1)
  obtain rfl := Option.some.inj (hty.symm.trans h2)
  rw [World.var?_cell hg h3 (q * 4 + j)]
  exact rows4_of ht he hf hc4 hti hci h4 q j hq hj
theorem tabD_by {W : World} (K : ∀ q j, q < 8 → j < 4 → W.cell? ⟨1, q * 4 + j, none⟩ = some (.int .i64 ((lit4 (mRows.getD q (0, 0, 0, 0))).getD j 0))) : TabD W := by
  intro i v hv
  have hi : i < 32 := (List.getElem?_eq_some_iff.1 hv).1
  obtain ⟨q, j, rfl, hq, hj⟩ : ∃ q j, i = q * 4 + j ∧ q < 8 ∧ j < 4 := ⟨i / 4, i % 4, by omega, by omega, by omega⟩
  rw [K q j hq hj, ← hv]
  have hq' : q = 0 ∨ q = 1 ∨ q = 2 ∨ q = 3 ∨ q = 4 ∨ q = 5 ∨ q = 6 ∨ q = 7 := by omega
  have hj' : j = 0 ∨ j = 1 ∨ j = 2 ∨ j = 3 := by omega
  rcases hq' with rfl | rfl | rfl | rfl | rfl | rfl | rfl | rfl <;> rcases hj' with rfl | rfl | rfl | rfl <;> rfl
/-- Each table's type reads, and is a row of the table of types. -/
def tabRow (P : Program) (n : String) : Bool := match P.globalNamed n with
  | some g => match (P.globals[g]?).map (·.type) with
    | some t => P.readableRec t && decide (t < P.types.size)
    | none => false
  | none => false
/-- Tables read on behind a call that leaves the old memory alone. -/
theorem vars_stay {H : Type} {enc : TypeId × Value → H} {P : Program} {W W' : World} (hl : laidOutB P = true) (hb : Below W.heap.size W W') (ns : List String) (hn : ∀ n ∈ ns, tabRow P n = true) :
    ∀ (gs : List (DataW H)) (ps : List MemPlace), DataW.TrodVars enc P W (fun _ => true) ns gs ps → DataW.TrodVars enc P W' (fun b => decide (b < W.heap.size)) ns gs ps := by
  induction ns with
  | nil =>
    intro gs ps h
    cases gs with
    | nil => exact h
    | cons => exact h.elim
  | cons n ns ih =>
    intro gs ps h
    cases gs with
    | nil => exact h.elim
    | cons d ds =>
      have low := h.lt
      obtain ⟨g, t, cs, fuel, p, q, h1, h2, h3, h4, hs, e⟩ := h
      have hr := hn n (List.mem_cons_self ..)
      unfold tabRow at hr
      simp only [h1, h2, Bool.and_eq_true, decide_eq_true_eq] at hr
      have hp : ∀ x ∈ p, x.block < W.heap.size := fun x hx => low x (by rw [e]; simp [hx])
      have hg : g < W.heap.size := by
        have h3' := h3
        simp only [World.var?, h1, Option.bind_some] at h3'
        cases hh : W.heap[g]? with
        | none => rw [hh] at h3'; cases h3'
        | some o => exact (Array.getElem?_eq_some_iff.1 hh).1
      refine ⟨g, t, cs, fuel, p, q, h1, h2, var?_below hb h1 hg h3, ?_, ih (fun m hm => hn m (List.mem_cons_of_mem _ hm)) ds q hs, e⟩
      exact DataW.trod_stays (kids_book hl hr.1) (book_sized hr.1) (fun h => by cases h) ⟨hr.2, book_self t⟩ h4 (fun x hx => hb.same (hp x hx)) (fun x hx => by simpa using hp x hx)
theorem change_and_shaped {H : Type} {enc : TypeId × Value → H} {a : Assume} {C : Checked} {os : Os} {f : FuncId} {fn : Func} {s : ChangeSpec} {conds : List PathCond} {apart fresh handsOn again : Bool} {X : World → Array Value → Prop}
    (hX : ∀ (w w' : World) (args : Array Value), w.heap = w'.heap → X w args → X w' args)
    (own : ownKnob C.prog.godebug = none) (started : os.Started) (noInit : C.prog.inits.idxOf? f = none) (hfn : C.prog.funcs[f]? = some fn)
    (witness : ∃ (w : World) (tape : Tape) (i : Input), w.os = os ∧ (w.forCall tape i).Shaped C.prog ∧ i.vars = [] ∧ Input.okWide C.prog (w.forCall tape i) .any w.heap.size f i ∧
      ((s.pre enc C.prog fn conds apart (w.forCall tape i).memory i.args ∧ X (w.forCall tape i).memory i.args) ∧ sizedMet enc C.prog fn (OpenSpec.ofChange s) apart (w.forCall tape i).memory i.args) ∧ a.holds C.prog (lone (Frame.enter C.prog f i.args .normal) [] (w.forCall tape i)))
    (contract : ∀ (W : World) (base : Nat) (args : Array Value) (ds gs : List (DataW H)) (before : List MemPlace),
      (∀ (j : Nat) t v, fn.params[j]? = some t → args[j]? = some v → Value.okWide C.prog W .any base t v) →
      DataW.Whole enc C.prog fn.params.toList s.vars apart W args.toList ds gs before →
      conds.all (PathCond.test C.prog ⟨fn.params.toList, ds, s.plain.varTypes C.prog, gs⟩) = true →
      (DataW.weightsEach C.prog (fn.params.toList ++ s.plain.varTypes C.prog) (ds ++ gs)).all (· ≤ reachBytes) = true → X W args → W.ShapedOpen C.prog →
      a.holds C.prog (lone (Frame.enter C.prog f args .normal) [] W) →
      Calls C.prog f args W fun e W' => ∃ v, e = .returned v ∧ s.post enc C.prog fn apart fresh handsOn again W args v W') :
    ReturnsInHanded a C os f .any (fun w args => (s.pre enc C.prog fn conds apart w args ∧ X w args) ∧ sizedMet enc C.prog fn (OpenSpec.ofChange s) apart w args) (s.post enc C.prog fn apart fresh handsOn again) := by
  refine returnsInHanded_of_calls own started noInit witness ?_
  intro w tape i _ hsh _ hok hpre hholds
  obtain ⟨_, _, _, fn', hfn', _, _, _, _, hval⟩ := hok
  have e : fn' = fn := Option.some.inj (hfn'.symm.trans hfn)
  subst e
  obtain ⟨⟨⟨ds, gs, before, hw, hc⟩, hx⟩, hz⟩ := hpre
  have hw' := DataW.Whole.of_heap (w' := w.forCall tape i) (by rfl) hw
  refine (contract (w.forCall tape i) w.heap.size i.args ds gs before hval hw' hc (hz.weights hw) (hX _ _ _ (by rfl) hx) hsh hholds).mono fun e W' ⟨v, he, hp⟩ => ?_
  subst he
  exact ChangeSpec.post_blind hp
theorem vars_len {H : Type} {enc : TypeId × Value → H} {P : Program} {W : World} {sp : Nat → Bool} : ∀ (ns : List String) (gs : List (DataW H)) (ps : List MemPlace), DataW.TrodVars enc P W sp ns gs ps → gs.length = ns.length
  | [], [], _, _ => rfl
  | [], _ :: _, _, h => h.elim
  | _ :: _, [], _, h => h.elim
  | n :: ns, d :: ds, ps, h => by
    obtain ⟨g, t, cs, fuel, p, q, h1, h2, h3, h4, hs, e⟩ := h
    simp [vars_len ns ds q hs]
theorem five_of {α : Type} {l : List α} (h : l.length = 5) : ∃ a b c d e, l = [a, b, c, d, e] := by
  match l, h with
  | [a, b, c, d, e], _ => exact ⟨a, b, c, d, e, rfl⟩
theorem four_of {α : Type} {l : List α} (h : l.length = 4) : ∃ a b c d, l = [a, b, c, d] := by
  match l, h with
  | [a, b, c, d], _ => exact ⟨a, b, c, d, rfl⟩
theorem six_of {α : Type} {l : List α} (h : l.length = 6) : ∃ a b c d e f, l = [a, b, c, d, e, f] := by
  match l, h with
  | [a, b, c, d, e, f], _ => exact ⟨a, b, c, d, e, f, rfl⟩

end Go.Proofs.YtkdlfnakbilhjaaGreatDoor.LDoorXK
