-- Made by this session's gprint.py out of the translation. Not trusted: Lean checks it.
import Derived.Test.YtcndojoghmblaaaDoorGEx0
import Derived.Test.YtcndojoghmblaaaDoorGEx2
namespace Go.Proofs.YtcndojoghmblaaaDoor.GE
open Go.RowKit Go.Proofs.YtcndojoghmblaaaDoorW.PrintWords Go.Proofs.YtcndojoghmblaaaDoorW.PrintLast Go.Proofs.YtcndojoghmblaaaDoorW.PrintMore
attribute [local go_sem] max2_int min2_int max_two min_two max_three min_three max_four min_four   -- for this text's walks alone
set_option linter.unusedVariables false
set_option linter.unusedSimpArgs false

def leastI (r : Nat) : Int := if r = 0 then 0 else if r = 1 then 1 else if r = 2 then 3 else if r = 3 then 5 else if r = 4 then 7 else if r = 5 then 8 else 10
def ivL (p : Nat) (least semis : Int) : ByteArray := if semis < least then ⟨#[100]⟩ else if semis = least then (if p = 0 ∨ p = 3 ∨ p = 4 then ⟨#[112]⟩ else ⟨#[115]⟩) else if semis = least + 1 then (if p = 0 ∨ p = 3 ∨ p = 4 then ⟨#[97]⟩ else ⟨#[103]⟩) else ⟨#[97]⟩
def impl_intervalLetter.f (a0 a1 : Int) : Option ByteArray := if 0 ≤ a0 then (if a0 < 1000 then some (ivL (a0 % 7).toNat (leastI (a0 % 7).toNat + 12 * (a0 / 7)) a1) else none) else none
set_option maxHeartbeats 4000000 in
set_option maxRecDepth 100000 in
theorem impl_intervalLetter.calls (a0 a1 : Int) (r : ByteArray) (w : World) (hTI : TabI w) (h : impl_intervalLetter.f a0 a1 = some r) :
  Calls Tryd.prog 79 #[.int .i64 a0, .int .i64 a1] w fun e w' => e = .returned (.string r) ∧ Drawn0 w w' := by
 unfold impl_intervalLetter.f at h
 by_cases h0 : 0 ≤ a0
 ·by_cases h1 : a0 < 1000
  ·rw [if_pos h0, if_pos h1] at h
   have e1 := Option.some.inj h
   subst e1
   have hx : a0 % 7 = 0 ∨ a0 % 7 = 1 ∨ a0 % 7 = 2 ∨ a0 % 7 = 3 ∨ a0 % 7 = 4 ∨ a0 % 7 = 5 ∨ a0 % 7 = 6 := by omega
   have c0 : w.cell? ⟨2, 0, none⟩ = some (.int .i64 0) := hTI 0 _ rfl
   have c1 : w.cell? ⟨2, 1, none⟩ = some (.int .i64 1) := hTI 1 _ rfl
   have c2 : w.cell? ⟨2, 2, none⟩ = some (.int .i64 3) := hTI 2 _ rfl
   have c3 : w.cell? ⟨2, 3, none⟩ = some (.int .i64 5) := hTI 3 _ rfl
   have c4 : w.cell? ⟨2, 4, none⟩ = some (.int .i64 7) := hTI 4 _ rfl
   have c5 : w.cell? ⟨2, 5, none⟩ = some (.int .i64 8) := hTI 5 _ rfl
   have c6 : w.cell? ⟨2, 6, none⟩ = some (.int .i64 10) := hTI 6 _ rfl
   clear hTI h
   have htm : a0.tmod 7 = a0 % 7 := Int.tmod_eq_emod_of_nonneg h0
   have htd : a0.tdiv 7 = a0 / 7 := Int.tdiv_eq_ediv_of_nonneg h0
   obtain ⟨q, hq⟩ : ∃ q, q = a0 / 7 := ⟨_, rfl⟩
   have hq0 : 0 ≤ q := by omega
   have hq1 : q < 200 := by omega
   rw [← hq] at htd
   rw [← hq]
   rcases hx with hx | hx | hx | hx | hx | hx | hx
   all_goals
    rw [hx]
    rw [hx] at htm
    go_enter Tryd.func79, Tryd.ntmps79
    go_wp2
    all_goals
     go_ret
     refine ⟨congrArg (fun s => Ending.returned (Value.string s)) ?_, Drawn0.refl _⟩
     subst hq
     simp only [ivL, leastI]
     (repeat' split) <;> first | rfl | (exfalso; omega)
  ·rw [if_pos h0, if_neg h1] at h
   exact absurd h (by simp)
 ·rw [if_neg h0] at h
  exact absurd h (by simp)


/-! ### tones, by hand -/
def toneOk (s : Int) (b : Bool) : Bool := decide (0 ≤ s) && (decide (s ≤ 20) && (!b || decide (s % 7 = 2)))
def htI (s : Int) (b : Bool) : Int := letHt (s % 7).toNat + 12 * (s / 7) - (if b = true then 1 else 0)
theorem toneOk_bd {s : Int} {b : Bool} (h : toneOk s b = true) : 0 ≤ s ∧ s ≤ 20 := by
 unfold toneOk at h
 simp only [Bool.and_eq_true, decide_eq_true_eq] at h
 exact ⟨h.1, h.2.1⟩
theorem valid_tone (s : Int) (b : Bool) : impl_Tone_valid.f s b = some (toneOk s b) := by
 unfold impl_Tone_valid.f toneOk
 by_cases h0 : 0 ≤ s
 ·by_cases h1 : s ≤ 20
  ·rw [if_pos h0, if_pos h1, Int.tmod_eq_emod_of_nonneg h0]
   cases b
   ·simp [h0, h1]
   ·simp only [if_true, h0, h1, decide_true, Bool.true_and, Bool.not_true, Bool.false_or]
    rfl
  ·rw [if_pos h0, if_neg h1]
   simp [h1]
 ·rw [if_neg h0]
  simp [h0]
theorem TabH.below {w w1 : World} (h : TabH w) (hb : Below w.heap.size w w1) : TabH w1 := TabAt.below h hb
theorem height_any (s : Int) (b : Bool) (w : World) (hTH : TabH w) (h : toneOk s b = true) :
  Calls Tryd.prog 77 #[.agg #[.int .i64 s, .bool b]] w fun e w' => e = .returned (.int .i64 (htI s b)) ∧ Below w.heap.size w w' := by
 have := toneOk_bd h
 refine impl_Tone_height.calls s b (htI s b) w hTH ?_
 unfold impl_Tone_height.f htI
 rw [if_pos (by omega), if_pos (by omega)]
theorem letHt_bd (r : Nat) : 0 ≤ letHt r ∧ letHt r ≤ 10 := by
 unfold letHt
 repeat' split
 all_goals omega
theorem htI_bd {s : Int} {b : Bool} (h : toneOk s b = true) : -1 ≤ htI s b ∧ htI s b ≤ 60 := by
 have h1 := toneOk_bd h
 have h2 := letHt_bd (s % 7).toNat
 unfold htI
 split <;> omega

theorem TabI.below {w w1 : World} (h : TabI w) (hb : Below w.heap.size w w1) : TabI w1 := TabAt.below h hb
theorem valid_any (s : Int) (b : Bool) (x : Bool) (w : World) (h : toneOk s b = x) : Calls Tryd.prog 76 #[.agg #[.int .i64 s, .bool b]] w fun e w' => e = .returned (.bool x) ∧ Below w.heap.size w w' := impl_Tone_valid.calls s b x w (by rw [valid_tone, h])
theorem two_new (w : World) (A : Obj) (cs : Array Value) (t : TypeId) : ((w.alloc A).alloc (.cells cs t (0, 0))).heap[w.heap.size + 1]? = some (.cells cs t (0, 0)) := by
 have h := blk_new (w.alloc A) (.cells cs t (0, 0))
 rwa [World.size_alloc] at h
def ivSw (a0 : Int) (b0 : Bool) (a1 : Int) (b1 : Bool) : Bool := decide (a0 > a1) || (decide (a0 = a1) && decide (htI a0 b0 > htI a1 b1))
def ivTail (sl : Int) (bl : Bool) (sh : Int) (bh : Bool) : Option ByteArray := (strconv_Itoa_78.f (sh - sl + 1)).bind fun t => (impl_intervalLetter.f (sh - sl) (htI sh bh - htI sl bl)).bind fun u => if t.size + u.size ≤ 9223372036854775807 then some (t ++ u) else none
def impl_ToneInterval.f (_k : Nat) (a0 : Int) (b0 : Bool) (a1 : Int) (b1 : Bool) : Option ByteArray := if toneOk a0 b0 = true then (if toneOk a1 b1 = true then (if ivSw a0 b0 a1 b1 = true then ivTail a1 b1 a0 b0 else ivTail a0 b0 a1 b1) else some ⟨#[]⟩) else some ⟨#[]⟩
theorem impl_ToneInterval.mono : ∀ a0 a1 a2 a3 k, LeO (impl_ToneInterval.f k a0 a1 a2 a3) (impl_ToneInterval.f (k + 1) a0 a1 a2 a3) := fun _ _ _ _ _ => LeO.refl _
set_option maxHeartbeats 8000000 in
set_option maxRecDepth 100000 in
theorem impl_ToneInterval.calls (k : Nat) (a0_0 : Int) (a0_1 : Bool) (a1_0 : Int) (a1_1 : Bool) (r : ByteArray) (w : World) (hTH : TabH w) (hTI : TabI w) (h : impl_ToneInterval.f k a0_0 a0_1 a1_0 a1_1 = some r) :
  Calls Tryd.prog 19 #[.agg #[.int .i64 a0_0, .bool a0_1], .agg #[.int .i64 a1_0, .bool a1_1]] w fun e w' => e = .returned (.string r) ∧ Below w.heap.size w w' := by
 have hu2 := Tryd.underlying30
 have HTH := am hTH
 have HTI := am hTI
 have HR := am h
 clear hTH hTI h
 go_enter Tryd.func19, Tryd.ntmps19
 go_upto_region 1 with fail
 have HP := am (blk_alloc (blk_new w (.cells #[.int .i64 a0_0, .bool a0_1] 30)) (.cells #[.int .i64 a1_0, .bool a1_1] 30))
 have HQ := am (two_new w (.cells #[.int .i64 a0_0, .bool a0_1] 30) #[.int .i64 a1_0, .bool a1_1] 30)
 have HB := am (below_alloc (below_alloc (Below.refl w.heap.size w) (.cells #[.int .i64 a0_0, .bool a0_1] 30)) (.cells #[.int .i64 a1_0, .bool a1_1] 30))
 generalize ((w.alloc (.cells #[.int .i64 a0_0, .bool a0_1] 30)).alloc (.cells #[.int .i64 a1_0, .bool a1_1] 30)) = wa at HP HQ HB ⊢
 have k0 : wa.cell? ⟨w.heap.size, 0, none⟩ = some (.int .i64 a0_0) := blk_cell HP.out 0
 have k1 : wa.cell? ⟨w.heap.size, 1, none⟩ = some (.bool a0_1) := blk_cell HP.out 1
 by_cases v0 : toneOk a0_0 a0_1 = true
 ·go_wp2_with fail
  refine (valid_any a0_0 a0_1 true _ v0).mono ?_
  rintro e w1 ⟨rfl, hb⟩
  have HP1 := am (blk_below HP.out hb)
  have HQ1 := am (blk_below HQ.out hb)
  have HB1 := am (below_step HB.out hb)
  clear k0 k1 HP HQ HB hb
  have k0 : w1.cell? ⟨w.heap.size + 1, 0, none⟩ = some (.int .i64 a1_0) := blk_cell HQ1.out 0
  have k1 : w1.cell? ⟨w.heap.size + 1, 1, none⟩ = some (.bool a1_1) := blk_cell HQ1.out 1
  by_cases v1 : toneOk a1_0 a1_1 = true
  ·go_wp2_with fail
   refine (valid_any a1_0 a1_1 true _ v1).mono ?_
   rintro e w2 ⟨rfl, hb⟩
   have HP := am (blk_below HP1.out hb)
   have HQ := am (blk_below HQ1.out hb)
   have HB := am (below_step HB1.out hb)
   clear k0 k1 HP1 HQ1 HB1 hb
   go_upto_region 3 with fail
   have p0 : w2.cell? ⟨w.heap.size, 0, none⟩ = some (.int .i64 a0_0) := blk_cell HP.out 0
   have p1 : w2.cell? ⟨w.heap.size, 1, none⟩ = some (.bool a0_1) := blk_cell HP.out 1
   have q0 : w2.cell? ⟨w.heap.size + 1, 0, none⟩ = some (.int .i64 a1_0) := blk_cell HQ.out 0
   have q1 : w2.cell? ⟨w.heap.size + 1, 1, none⟩ = some (.bool a1_1) := blk_cell HQ.out 1
   have hlp := blk_lt HP.out
   have hlq := blk_lt HQ.out
   go_cut [5, 6] (fun v5 v6 wc => ∃ gl gh : Nat, v5 = .pointer (some ⟨gl, 0, none⟩) ∧ v6 = .pointer (some ⟨gh, 0, none⟩) ∧ Aside0 (wc.heap[gl]? = some (.cells #[.int .i64 a0_0, .bool a0_1] 30 (0, 0))) ∧ Aside0 (wc.heap[gh]? = some (.cells #[.int .i64 a1_0, .bool a1_1] 30 (0, 0))) ∧ Aside0 (w2.heap.size ≤ gl ∧ w2.heap.size ≤ gh ∧ gl ≠ gh) ∧ Aside0 (Below w2.heap.size w2 wc))
   case first =>
    go_region
    ·go_wp2
     go_meet
     exact ⟨w2.heap.size, w2.heap.size + 1, rfl, rfl, ⟨blk_drew (blk_alloc (blk_new _ _) _)⟩, ⟨blk_drew (two_new _ _ _ _)⟩, ⟨by omega⟩, ⟨below_drew1 (below_alloc (below_alloc (Below.refl _ _) _) _)⟩⟩
    ·go_wp2
     go_meet
     exact ⟨w2.heap.size + 1, w2.heap.size, rfl, rfl, ⟨blk_drew (two_new _ _ _ _)⟩, ⟨blk_drew (blk_alloc (blk_new _ _) _)⟩, ⟨by omega⟩, ⟨below_drew1 (below_alloc (below_alloc (Below.refl _ _) _) _)⟩⟩
   case rest =>
    obtain ⟨gl, gh, rfl, rfl, HL, HH, HN, HBc⟩ := hcut
    obtain ⟨wx, rfl⟩ : ∃ wx : World, wx = wc := ⟨_, rfl⟩
    clear p0 p1 q0 q1
    have HP2 := am (blk_below HP.out HBc.out)
    have HQ2 := am (blk_below HQ.out HBc.out)
    have HB2 := am (below_step HB.out HBc.out)
    have HG := am (show w.heap.size ≠ gl ∧ w.heap.size + 1 ≠ gl ∧ w.heap.size ≠ gh ∧ w.heap.size + 1 ≠ gh ∧ gl ≠ gh by have := HN.out; omega)
    have HW := am (show w.heap.size ≤ gl ∧ w.heap.size ≤ gh by have := HN.out; omega)
    clear hlp hlq HP HQ HB HBc HN
    have p0 : wx.cell? ⟨w.heap.size, 0, none⟩ = some (.int .i64 a0_0) := blk_cell HP2.out 0
    have p1 : wx.cell? ⟨w.heap.size, 1, none⟩ = some (.bool a0_1) := blk_cell HP2.out 1
    have q0 : wx.cell? ⟨w.heap.size + 1, 0, none⟩ = some (.int .i64 a1_0) := blk_cell HQ2.out 0
    have q1 : wx.cell? ⟨w.heap.size + 1, 1, none⟩ = some (.bool a1_1) := blk_cell HQ2.out 1
    go_upto_region 4 with fail
    go_cut [36] (fun v36 w4 => v36 = .bool (ivSw a0_0 a0_1 a1_0 a1_1) ∧ Aside0 (Below wx.heap.size wx w4))
    case first =>
     by_cases c1 : a0_0 > a1_0
     ·have e1 : decide (a0_0 > a1_0) = true := decide_eq_true c1
      have e2 : ivSw a0_0 a0_1 a1_0 a1_1 = true := by unfold ivSw; rw [e1]; rfl
      go_quiet (fail)
      go_wp2
      go_meet
      exact ⟨by rw [e2], ⟨pw_below_drewN (Below.refl _ _) _⟩⟩
     ·have e1 : decide (a0_0 > a1_0) = false := decide_eq_false c1
      by_cases c2 : a0_0 = a1_0
      ·have e3 : (a0_0 == a1_0) = true := beq_iff_eq.2 c2
       have e2 : ivSw a0_0 a0_1 a1_0 a1_1 = decide (htI a0_0 a0_1 > htI a1_0 a1_1) := by unfold ivSw; rw [e1, decide_eq_true c2, Bool.false_or, Bool.true_and]
       have C2 := am c2
       clear c2
       clear p0 p1 q0 q1
       go_wp2_with fail
       have HP3 := am (blk_drew HP2.out)
       have HQ3 := am (blk_drew HQ2.out)
       have HB3 := am (below_drew1 (Below.refl wx.heap.size wx))
       refine start_ (n := 19) (S := fun w' => w'.cell? ⟨w.heap.size, 0, none⟩ = some (.int .i64 a0_0) ∧ w'.cell? ⟨w.heap.size, 1, none⟩ = some (.bool a0_1) ∧ w'.cell? ⟨w.heap.size + 1, 0, none⟩ = some (.int .i64 a1_0) ∧ w'.cell? ⟨w.heap.size + 1, 1, none⟩ = some (.bool a1_1)) (ds := []) #[F,F,F,F,F,F,F,F,F,F,F,F,F,F,F,F,F,F,F] (by kernel_rfl) rfl rfl ⟨blk_cell HP3.out 0, blk_cell HP3.out 1, blk_cell HQ3.out 0, blk_cell HQ3.out 1⟩ (fun hHeld => ?_)
       generalize wx.drew = wd at HP3 HQ3 HB3 hHeld ⊢
       refine pz 0 (some 18) #[T,F,F,F,F,F,F,F,F,F,F,F,F,F,F,F,F,F,F] (by kernel_rfl) (h := ?_)
       refine pz 2 (some 20) #[T,F,T,F,F,F,F,F,F,F,F,F,F,F,F,F,F,F,F] (by kernel_rfl) (h := ?_)
       refine tz hHeld 1 (some 19) #[T,T,T,F,F,F,F,F,F,F,F,F,F,F,F,F,F,F,F] (by kernel_rfl) (h := ?_)
       refine tz hHeld 3 (some 21) #[T,T,T,T,F,F,F,F,F,F,F,F,F,F,F,F,F,F,F] (by kernel_rfl) (h := ?_)
       refine pz 4 (some 22) #[T,T,T,T,T,F,F,F,F,F,F,F,F,F,F,F,F,F,F] (by kernel_rfl) (h := ?_)
       refine pz 5 (some 23) #[T,T,T,T,T,T,F,F,F,F,F,F,F,F,F,F,F,F,F] (by kernel_rfl) (h := ?_)
       refine pz 6 (some 24) #[T,T,T,T,T,T,T,F,F,F,F,F,F,F,F,F,F,F,F] (by kernel_rfl) (h := ?_)
       refine pz 8 (some 26) #[T,T,T,T,T,T,T,F,T,F,F,F,F,F,F,F,F,F,F] (by kernel_rfl) (h := ?_)
       refine tz hHeld 7 (some 25) #[T,T,T,T,T,T,T,T,T,F,F,F,F,F,F,F,F,F,F] (by kernel_rfl) (h := ?_)
       refine tz hHeld 9 (some 27) #[T,T,T,T,T,T,T,T,T,T,F,F,F,F,F,F,F,F,F] (by kernel_rfl) (h := ?_)
       refine pz 10 (some 28) #[T,T,T,T,T,T,T,T,T,T,T,F,F,F,F,F,F,F,F] (by kernel_rfl) (h := ?_)
       refine pz 11 (some 29) #[T,T,T,T,T,T,T,T,T,T,T,T,F,F,F,F,F,F,F] (by kernel_rfl) (h := ?_)
       refine tz hHeld 12 (some 30) #[T,T,T,T,T,T,T,T,T,T,T,T,T,F,F,F,F,F,F] (by kernel_rfl) (h := ?_)
       refine tz hHeld 14 (some 32) #[T,T,T,T,T,T,T,T,T,T,T,T,T,F,T,F,F,F,F] (by kernel_rfl) (h := ?_)
       refine one_ (i := 13) (N := some 31) #[T,T,T,T,T,T,T,T,T,T,T,T,T,T,T,F,F,F,F] rfl rfl (by kernel_rfl) (by decide) (fun K hK => ?_)
       refine goes_ Tryd.func77 (by kernel_rfl) rfl #[.agg #[.int .i64 a0_0, .bool a0_1]] (by rfl) rfl rfl (by (try simp only [List.map_toArray, List.map_cons, List.map_nil]); first | done | rfl) ?_
       with_reducible refine (height_any a0_0 a0_1 _ (TabH.below HTH.out (below_step HB2.out HB3.out)) v0).mono ?_
       rintro e we ⟨rfl, hb⟩
       refine ⟨_, rfl, ?_⟩
       have HP' := am (blk_below HP3.out hb)
       have HQ' := am (blk_below HQ3.out hb)
       have HB' := am (below_step HB3.out hb)
       clear HP3 HQ3 HB3 hb
       have HP3 := HP'
       have HQ3 := HQ'
       have HB3 := HB'
       clear HP' HQ' HB'
       refine hK.out _ _ ⟨blk_cell HP3.out 0, blk_cell HP3.out 1, blk_cell HQ3.out 0, blk_cell HQ3.out 1⟩ (fun hHeld => ?_)
       clear hK K
       refine norm_ (a' := ?_) ?_ ?_
       rotate_left
       ·show Act.put _ (some 31) _ = _
        simp only [Act.put, sA, sZ, sS, i64_w, i32_w]
        rfl
       refine one_ (i := 15) (N := some 33) #[T,T,T,T,T,T,T,T,T,T,T,T,T,T,T,T,F,F,F] rfl rfl (by kernel_rfl) (by decide) (fun K hK => ?_)
       refine goes_ Tryd.func77 (by kernel_rfl) rfl #[.agg #[.int .i64 a1_0, .bool a1_1]] (by rfl) rfl rfl (by (try simp only [List.map_toArray, List.map_cons, List.map_nil]); first | done | rfl) ?_
       with_reducible refine (height_any a1_0 a1_1 _ (TabH.below HTH.out (below_step HB2.out HB3.out)) v1).mono ?_
       rintro e we ⟨rfl, hb⟩
       refine ⟨_, rfl, ?_⟩
       have HP' := am (blk_below HP3.out hb)
       have HQ' := am (blk_below HQ3.out hb)
       have HB' := am (below_step HB3.out hb)
       clear HP3 HQ3 HB3 hb
       have HP3 := HP'
       have HQ3 := HQ'
       have HB3 := HB'
       clear HP' HQ' HB'
       refine hK.out _ _ ⟨blk_cell HP3.out 0, blk_cell HP3.out 1, blk_cell HQ3.out 0, blk_cell HQ3.out 1⟩ (fun hHeld => ?_)
       clear hK K
       refine norm_ (a' := ?_) ?_ ?_
       rotate_left
       ·show Act.put _ (some 33) _ = _
        simp only [Act.put, sA, sZ, sS, i64_w, i32_w]
        rfl
       refine pz 16 (some 34) #[T,T,T,T,T,T,T,T,T,T,T,T,T,T,T,T,T,F,F] (by kernel_rfl) (h := ?_)
       refine pz 17 (some 35) #[T,T,T,T,T,T,T,T,T,T,T,T,T,T,T,T,T,T,F] (by kernel_rfl) (h := ?_)
       refine pz 18 (some 36) #[T,T,T,T,T,T,T,T,T,T,T,T,T,T,T,T,T,T,T] (by kernel_rfl) (h := ?_)
       refine done_ (by kernel_rfl) ?_
       go_wp2
       go_meet
       exact ⟨by rw [e2], HB3⟩
      ·have e3 : (a0_0 == a1_0) = false := beq_eq_false_iff_ne.2 c2
       have e2 : ivSw a0_0 a0_1 a1_0 a1_1 = false := by unfold ivSw; rw [e1, decide_eq_false c2]; rfl
       go_quiet (fail)
       go_wp2
       go_meet
       exact ⟨by rw [e2], ⟨pw_below_drewN (Below.refl _ _) _⟩⟩
    case rest =>
     obtain ⟨rfl, HB4⟩ := hcut
     obtain ⟨w4, rfl⟩ : ∃ w4 : World, w4 = wc := ⟨_, rfl⟩
     have HP3 := am (blk_below HP2.out HB4.out)
     have HQ3 := am (blk_below HQ2.out HB4.out)
     have HL3 := am (blk_below HL.out HB4.out)
     have HH3 := am (blk_below HH.out HB4.out)
     have HB3 := am (below_step HB2.out HB4.out)
     clear p0 p1 q0 q1 HP2 HQ2 HL HH HB2 HB4
     go_upto_if 36 with fail
     go_cut [] (fun w5 => ∃ (sl : Int) (bl : Bool) (sh : Int) (bh : Bool), Aside0 (w5.heap[gl]? = some (.cells #[.int .i64 sl, .bool bl] 30 (0, 0))) ∧ Aside0 (w5.heap[gh]? = some (.cells #[.int .i64 sh, .bool bh] 30 (0, 0))) ∧ Aside0 (toneOk sl bl = true) ∧ Aside0 (toneOk sh bh = true) ∧ Aside0 (ivTail sl bl sh bh = some r) ∧ Aside0 (Below w.heap.size w w5))
     case first =>
      have hr := HR.out
      unfold impl_ToneInterval.f at hr
      rw [if_pos v0, if_pos v1] at hr
      cases hsw : ivSw a0_0 a0_1 a1_0 a1_1 with
      | true =>
       rw [if_pos hsw] at hr
       have HR2 := am hr
       clear hr hsw
       have p0 : w4.cell? ⟨w.heap.size, 0, none⟩ = some (.int .i64 a0_0) := blk_cell HP3.out 0
       have p1 : w4.cell? ⟨w.heap.size, 1, none⟩ = some (.bool a0_1) := blk_cell HP3.out 1
       have q0 : w4.cell? ⟨w.heap.size + 1, 0, none⟩ = some (.int .i64 a1_0) := blk_cell HQ3.out 0
       have q1 : w4.cell? ⟨w.heap.size + 1, 1, none⟩ = some (.bool a1_1) := blk_cell HQ3.out 1
       have l0 : w4.cell? ⟨gl, 0, none⟩ = some (.int .i64 a0_0) := blk_cell HL3.out 0
       have l1 : w4.cell? ⟨gl, 1, none⟩ = some (.bool a0_1) := blk_cell HL3.out 1
       have m0 : w4.cell? ⟨gh, 0, none⟩ = some (.int .i64 a1_0) := blk_cell HH3.out 0
       have m1 : w4.cell? ⟨gh, 1, none⟩ = some (.bool a1_1) := blk_cell HH3.out 1
       have lf := fun i => blk_frozen HL3.out i
       have mf := fun i => blk_frozen HH3.out i
       obtain ⟨n1, n2, n3, n4, n5⟩ := HG.out
       have n5' := Ne.symm n5
       go_wp2_with fail
       go_region
       go_wp2
       go_meet
       exact ⟨a1_0, a1_1, a0_0, a0_1, ⟨blk_drew (blk_far (blk_far (blk_put (blk_put HL3.out 0 _ rfl) 1 _ rfl) n5 _) n5 _)⟩, ⟨blk_drew (blk_put (blk_put (blk_far (blk_far HH3.out n5' _) n5' _) 0 _ rfl) 1 _ rfl)⟩, ⟨v1⟩, ⟨v0⟩, HR2, ⟨below_drew1 (below_set (below_set (below_set (below_set HB3.out HW.out.1) HW.out.1) HW.out.2) HW.out.2)⟩⟩
      | false =>
       rw [if_neg (by rw [hsw]; decide)] at hr
       have HR2 := am hr
       clear hr hsw
       go_wp2
       go_meet
       exact ⟨a0_0, a0_1, a1_0, a1_1, HL3, HH3, ⟨v0⟩, ⟨v1⟩, HR2, HB3⟩
     case rest =>
      obtain ⟨sl, bl, sh, bh, HL5, HH5, HVL, HVH, HT, HB5⟩ := hcut
      obtain ⟨w5, rfl⟩ : ∃ w5 : World, w5 = wc := ⟨_, rfl⟩
      obtain ⟨t, ha1, ht⟩ := Option.bind_eq_some_iff.mp HT.out
      obtain ⟨u, ha2, ht⟩ := Option.bind_eq_some_iff.mp ht
      have hb1 := toneOk_bd HVL.out
      have hb2 := toneOk_bd HVH.out
      have hb3 := htI_bd HVL.out
      have hb4 := htI_bd HVH.out
      have hw1 : wrap64 (sh - sl) = sh - sl := by unfold wrap64; omega
      have A1 := am (show strconv_Itoa_78.f (wrap64 (wrap64 (sh - sl) + 1)) = some t by rw [hw1, show wrap64 (sh - sl + 1) = sh - sl + 1 by unfold wrap64; omega]; exact ha1)
      have A2 := am (show impl_intervalLetter.f (wrap64 (sh - sl)) (wrap64 (htI sh bh - htI sl bl)) = some u by rw [hw1, show wrap64 (htI sh bh - htI sl bl) = htI sh bh - htI sl bl by unfold wrap64; omega]; exact ha2)
      clear ha1 ha2 hb1 hb2 hb3 hb4 hw1
      by_cases c50 : t.size + u.size ≤ 9223372036854775807
      ·rw [if_pos c50] at ht
       obtain rfl := Option.some.inj ht
       have c50b0 := eq_true c50
       have c50b1 : decide (t.size + u.size ≤ 9223372036854775807) = true := decide_eq_true c50
       have c50b2 : (9223372036854775807 < t.size + u.size) = False := eq_false (Nat.not_lt.2 c50)
       have l0 : w5.cell? ⟨gl, 0, none⟩ = some (.int .i64 sl) := blk_cell HL5.out 0
       have l1 : w5.cell? ⟨gl, 1, none⟩ = some (.bool bl) := blk_cell HL5.out 1
       have m0 : w5.cell? ⟨gh, 0, none⟩ = some (.int .i64 sh) := blk_cell HH5.out 0
       have m1 : w5.cell? ⟨gh, 1, none⟩ = some (.bool bh) := blk_cell HH5.out 1
       go_wp2_with fail
       clear l0 l1 m0 m1
       have HL6 := am (blk_drew HL5.out)
       have HH6 := am (blk_drew HH5.out)
       have HB6 := am (below_drew1 HB5.out)
       refine start_ (n := 12) (S := fun w' => w'.cell? ⟨gl, 0, none⟩ = some (.int .i64 sl) ∧ w'.cell? ⟨gl, 1, none⟩ = some (.bool bl) ∧ w'.cell? ⟨gh, 0, none⟩ = some (.int .i64 sh) ∧ w'.cell? ⟨gh, 1, none⟩ = some (.bool bh)) (ds := []) #[F,F,F,F,F,F,F,F,F,F,F,F] (by kernel_rfl) rfl rfl ⟨blk_cell HL6.out 0, blk_cell HL6.out 1, blk_cell HH6.out 0, blk_cell HH6.out 1⟩ (fun hHeld => ?_)
       generalize w5.drew = wd at HL6 HH6 HB6 hHeld ⊢
       refine pz 0 (some 44) #[T,F,F,F,F,F,F,F,F,F,F,F] (by kernel_rfl) (h := ?_)
       refine pz 1 (some 45) #[T,T,F,F,F,F,F,F,F,F,F,F] (by kernel_rfl) (h := ?_)
       refine pz 3 (some 47) #[T,T,F,T,F,F,F,F,F,F,F,F] (by kernel_rfl) (h := ?_)
       refine tz hHeld 4 (some 48) #[T,T,F,T,T,F,F,F,F,F,F,F] (by kernel_rfl) (h := ?_)
       refine tz hHeld 6 (some 50) #[T,T,F,T,T,F,T,F,F,F,F,F] (by kernel_rfl) (h := ?_)
       refine one_ (i := 2) (N := some 46) #[T,T,T,T,T,F,T,F,F,F,F,F] rfl rfl (by kernel_rfl) (by decide) (fun K hK => ?_)
       refine goes_ Tryd.func78 (by kernel_rfl) rfl #[.int .i64 (wrap64 ((wrap64 (sh - sl)) + 1))] (by rfl) rfl rfl (by (try simp only [List.map_toArray, List.map_cons, List.map_nil]); first | done | rfl) ?_
       with_reducible refine (strconv_Itoa_78.calls (wrap64 ((wrap64 (sh - sl)) + 1)) t _ A1.out).mono ?_
       rintro e w' ⟨rfl, ⟨nd, rfl⟩⟩
       refine ⟨_, rfl, ?_⟩
       have HL' := am (blk_drewN HL6.out nd)
       have HH' := am (blk_drewN HH6.out nd)
       have HB' := am (pw_below_drewN HB6.out nd)
       clear HL6 HH6 HB6
       have HL6 := HL'
       have HH6 := HH'
       have HB6 := HB'
       clear HL' HH' HB'
       generalize World.drewN _ nd = w9 at HL6 HH6 HB6 ⊢
       refine hK.out _ _ ⟨blk_cell HL6.out 0, blk_cell HL6.out 1, blk_cell HH6.out 0, blk_cell HH6.out 1⟩ (fun hHeld => ?_)
       clear hK K
       refine norm_ (a' := ?_) ?_ ?_
       rotate_left
       ·show Act.put _ (some 46) _ = _
        simp only [Act.put, sA, sZ, sS, i64_w, i32_w]
        rfl
       refine one_ (i := 5) (N := some 49) #[T,T,T,T,T,T,T,F,F,F,F,F] rfl rfl (by kernel_rfl) (by decide) (fun K hK => ?_)
       refine goes_ Tryd.func77 (by kernel_rfl) rfl #[.agg #[.int .i64 sh, .bool bh]] (by rfl) rfl rfl (by (try simp only [List.map_toArray, List.map_cons, List.map_nil]); first | done | rfl) ?_
       with_reducible refine (height_any sh bh _ (TabH.below HTH.out HB6.out) HVH.out).mono ?_
       rintro e we ⟨rfl, hb⟩
       refine ⟨_, rfl, ?_⟩
       have HL' := am (blk_below HL6.out hb)
       have HH' := am (blk_below HH6.out hb)
       have HB' := am (below_step HB6.out hb)
       clear HL6 HH6 HB6 hb
       have HL6 := HL'
       have HH6 := HH'
       have HB6 := HB'
       clear HL' HH' HB'
       refine hK.out _ _ ⟨blk_cell HL6.out 0, blk_cell HL6.out 1, blk_cell HH6.out 0, blk_cell HH6.out 1⟩ (fun hHeld => ?_)
       clear hK K
       refine norm_ (a' := ?_) ?_ ?_
       rotate_left
       ·show Act.put _ (some 49) _ = _
        simp only [Act.put, sA, sZ, sS, i64_w, i32_w]
        rfl
       refine one_ (i := 7) (N := some 51) #[T,T,T,T,T,T,T,T,F,F,F,F] rfl rfl (by kernel_rfl) (by decide) (fun K hK => ?_)
       refine goes_ Tryd.func77 (by kernel_rfl) rfl #[.agg #[.int .i64 sl, .bool bl]] (by rfl) rfl rfl (by (try simp only [List.map_toArray, List.map_cons, List.map_nil]); first | done | rfl) ?_
       with_reducible refine (height_any sl bl _ (TabH.below HTH.out HB6.out) HVL.out).mono ?_
       rintro e we ⟨rfl, hb⟩
       refine ⟨_, rfl, ?_⟩
       have HL' := am (blk_below HL6.out hb)
       have HH' := am (blk_below HH6.out hb)
       have HB' := am (below_step HB6.out hb)
       clear HL6 HH6 HB6 hb
       have HL6 := HL'
       have HH6 := HH'
       have HB6 := HB'
       clear HL' HH' HB'
       refine hK.out _ _ ⟨blk_cell HL6.out 0, blk_cell HL6.out 1, blk_cell HH6.out 0, blk_cell HH6.out 1⟩ (fun hHeld => ?_)
       clear hK K
       refine norm_ (a' := ?_) ?_ ?_
       rotate_left
       ·show Act.put _ (some 51) _ = _
        simp only [Act.put, sA, sZ, sS, i64_w, i32_w]
        rfl
       refine pz 8 (some 52) #[T,T,T,T,T,T,T,T,T,F,F,F] (by kernel_rfl) (h := ?_)
       refine one_ (i := 9) (N := some 53) #[T,T,T,T,T,T,T,T,T,T,F,F] rfl rfl (by kernel_rfl) (by decide) (fun K hK => ?_)
       refine goes_ Tryd.func79 (by kernel_rfl) rfl #[.int .i64 (wrap64 (sh - sl)), .int .i64 (wrap64 (htI sh bh - htI sl bl))] (by rfl) rfl rfl (by (try simp only [List.map_toArray, List.map_cons, List.map_nil]); first | done | rfl) ?_
       with_reducible refine (impl_intervalLetter.calls (wrap64 (sh - sl)) (wrap64 (htI sh bh - htI sl bl)) u _ (TabI.below HTI.out HB6.out) A2.out).mono ?_
       rintro e w' ⟨rfl, ⟨nd, rfl⟩⟩
       refine ⟨_, rfl, ?_⟩
       have HL' := am (blk_drewN HL6.out nd)
       have HH' := am (blk_drewN HH6.out nd)
       have HB' := am (pw_below_drewN HB6.out nd)
       clear HL6 HH6 HB6
       have HL6 := HL'
       have HH6 := HH'
       have HB6 := HB'
       clear HL' HH' HB'
       generalize World.drewN _ nd = w10 at HL6 HH6 HB6 ⊢
       refine hK.out _ _ ⟨blk_cell HL6.out 0, blk_cell HL6.out 1, blk_cell HH6.out 0, blk_cell HH6.out 1⟩ (fun hHeld => ?_)
       clear hK K
       refine norm_ (a' := ?_) ?_ ?_
       rotate_left
       ·show Act.put _ (some 53) _ = _
        simp only [Act.put, sA, sZ, sS, i64_w, i32_w]
        rfl
       refine pz 10 (some 54) #[T,T,T,T,T,T,T,T,T,T,T,F] (by kernel_rfl) (h := ?_)
       refine pz 11 (some 4) #[T,T,T,T,T,T,T,T,T,T,T,T] (by kernel_rfl) (h := ?_)
       refine done_ (by kernel_rfl) ?_
       go_wp2
       go_ret
       exact ⟨rfl, HB6.out⟩
      ·rw [if_neg c50] at ht
       exact absurd ht (by simp)
  ·have v1 := Bool.eq_false_iff.mpr v1
   go_wp2_with fail
   refine (valid_any a1_0 a1_1 false _ v1).mono ?_
   rintro e w2 ⟨rfl, hb⟩
   have HB := am (below_step HB1.out hb)
   have hr := HR.out
   unfold impl_ToneInterval.f at hr
   rw [if_pos v0, if_neg (by rw [v1]; decide)] at hr
   obtain rfl := Option.some.inj hr
   clear k0 k1 hb hr
   go_wp2
   go_ret
   exact ⟨rfl, HB.out⟩
 ·have v0 := Bool.eq_false_iff.mpr v0
  go_wp2_with fail
  refine (valid_any a0_0 a0_1 false _ v0).mono ?_
  rintro e w1 ⟨rfl, hb⟩
  have HB1 := am (below_step HB.out hb)
  have hr := HR.out
  unfold impl_ToneInterval.f at hr
  rw [if_neg (by rw [v0]; decide)] at hr
  obtain rfl := Option.some.inj hr
  clear k0 k1 hb hr
  go_wp2
  go_ret
  exact ⟨rfl, HB1.out⟩


/-! ### stringslite_HasSuffix: function 155 -/
def stringslite_HasSuffix.f (a0 : ByteArray) (a1 : ByteArray) : Option (Bool) := if (a0.size : Int) ≥ (a1.size : Int) then (if 0 ≤ (wrap64 ((a0.size : Int) - (a1.size : Int))) then (if (wrap64 ((a0.size : Int) - (a1.size : Int))) ≤ (a0.size : Int) then (some ((a0.extract ((wrap64 ((a0.size : Int) - (a1.size : Int))) : Int).toNat a0.size).toList == a1.toList)) else (none)) else (none)) else (some false)
set_option maxHeartbeats 8000000 in
set_option maxRecDepth 100000 in
theorem stringslite_HasSuffix.calls (a0 : ByteArray) (a1 : ByteArray) (r : Bool) (w : World) (h : stringslite_HasSuffix.f a0 a1 = some r) :
  Calls Tryd.prog 155 #[.string a0, .string a1] w fun e w' => e = .returned (.bool r) ∧ Drawn0 w w' := by
 have H : (if (a0.size : Int) ≥ (a1.size : Int) then (if 0 ≤ (wrap64 ((a0.size : Int) - (a1.size : Int))) then (if (wrap64 ((a0.size : Int) - (a1.size : Int))) ≤ (a0.size : Int) then (some ((a0.extract ((wrap64 ((a0.size : Int) - (a1.size : Int))) : Int).toNat a0.size).toList == a1.toList)) else (none)) else (none)) else (some false)) = some r := h
 clear h
 by_cases c3 : (a0.size : Int) ≥ (a1.size : Int)
 ·rw [if_pos c3] at H
  have c3b0 : decide ((a1.size : Int) ≤ (a0.size : Int)) = true := decide_eq_true c3
  have c3b1 : decide (a1.size ≤ a0.size) = true := decide_eq_true (Int.ofNat_le.mp c3)
  clear c3
  obtain ⟨ji4, hji4⟩ : ∃ j_ : Int, (wrap64 ((a0.size : Int) - (a1.size : Int))) = j_ := ⟨_, rfl⟩
  replace H : (if 0 ≤ (ji4) then (if (ji4) ≤ (a0.size : Int) then (some ((a0.extract ((ji4) : Int).toNat a0.size).toList == a1.toList)) else (none)) else (none)) = some r := by first | (rw [hji4] at H; exact H) | (simp only [hji4] at H ⊢; exact H)
  have hji4w : (IntKind.i64.wrap ((a0.size : Int) - (a1.size : Int))) = ji4 := (i64_w _).trans hji4
  by_cases c5 : 0 ≤ (ji4)
  ·rw [if_pos c5] at H
   have c5b0 := eq_true c5
   have c5b1 : decide (0 ≤ (ji4)) = true := decide_eq_true c5
   clear c5
   by_cases c6 : (ji4) ≤ (a0.size : Int)
   ·rw [if_pos c6] at H
    have c6b0 := eq_true c6
    have c6b1 : decide ((ji4) ≤ (a0.size : Int)) = true := decide_eq_true c6
    clear c6
    obtain rfl := Option.some.inj H
    go_enter Tryd.func155, Tryd.ntmps155
    go_wp2
    go_ret
    exact ⟨by first | rfl | (simp; done) | (simp only [← hji4] <;> (first | rfl | simp)) | (simp [*]; done), by repeat (first | exact Drawn0.refl _ | apply Drawn0.step)⟩
   ·rw [if_neg c6] at H
    exact absurd H (by simp)
  ·rw [if_neg c5] at H
   exact absurd H (by simp)
 ·rw [if_neg c3] at H
  have c3b0 : decide ((a1.size : Int) ≤ (a0.size : Int)) = false := decide_eq_false c3
  have c3b1 : decide (a1.size ≤ a0.size) = false := decide_eq_false (fun h => c3 (Int.ofNat_le.mpr h))
  clear c3
  obtain rfl := Option.some.inj H
  go_enter Tryd.func155, Tryd.ntmps155
  go_wp2
  go_ret
  exact ⟨by first | rfl | (simp; done) | (simp [*]; done), by repeat (first | exact Drawn0.refl _ | apply Drawn0.step)⟩

/-! ### strings_HasSuffix: function 123 -/
def strings_HasSuffix.f (a0 : ByteArray) (a1 : ByteArray) : Option (Bool) := (stringslite_HasSuffix.f a0 a1).bind fun t105 => (some t105)
set_option maxHeartbeats 8000000 in
set_option maxRecDepth 100000 in
theorem strings_HasSuffix.calls (a0 : ByteArray) (a1 : ByteArray) (r : Bool) (w : World) (h : strings_HasSuffix.f a0 a1 = some r) :
  Calls Tryd.prog 123 #[.string a0, .string a1] w fun e w' => e = .returned (.bool r) ∧ Drawn0 w w' := by
 have H : ((stringslite_HasSuffix.f a0 a1).bind fun t105 => (some t105)) = some r := h
 clear h
 replace H := Option.bind_eq_some_iff.mp H
 obtain ⟨t105, A30, H⟩ := H
 replace H : (some t105) = some r := H
 have A3 := am A30
 clear A30
 obtain rfl := Option.some.inj H
 go_enter Tryd.func123, Tryd.ntmps123
 go_wp2_with (first | ((with_reducible refine gate_callee (f := 155) rfl ?_); refine goesL_ (some 7) rfl rfl Tryd.func155 (by kernel_rfl) rfl #[.string a0, .string a1] rfl (by (try simp only [List.map_toArray, List.map_cons, List.map_nil]); first | done | rfl | (simp only [List.length_drop, List.length_take]; rfl)) ?_; (with_reducible refine (stringslite_HasSuffix.calls a0 a1 t105 _ A3.out).mono ?_); rintro e w' ⟨rfl, ⟨nd, rfl⟩⟩; refine ⟨_, rfl, ?_⟩))
 go_ret
 exact ⟨by first | rfl | (simp; done) | (simp [*]; done), by repeat (first | exact Drawn0.refl _ | apply Drawn0.step)⟩

/-! ### impl_soundPair_concord: function 69 -/
def impl_soundPair_concord.j0 : Nat → Bool → Int → Bool → Int → Bool → Option (Bool)
 | 0, _, _, _, _, _ => none
 | k + 1, x25, x107000, x107001, x107002, x107003 => if x25 = true then (some false) else ((impl_ToneInterval.f k x107000 x107001 x107002 x107003).bind fun t107 => ((strings_HasSuffix.f t107 (⟨#[112]⟩ : ByteArray)).bind fun t108 => (some t108)))
def impl_soundPair_concord.f (k : Nat) (a0_0 : Int) (a0_1 : Bool) (a0_2 : Int) (a0_3 : Bool) : Option (Bool) := if (Int.tmod (mx (wrap64 (a0_0 - a0_2)) (wrap64 (-(wrap64 (a0_0 - a0_2))))) 7) = 0 then (impl_soundPair_concord.j0 k false a0_0 a0_1 a0_2 a0_3) else (if (Int.tmod (mx (wrap64 (a0_0 - a0_2)) (wrap64 (-(wrap64 (a0_0 - a0_2))))) 7) = 3 then (impl_soundPair_concord.j0 k false a0_0 a0_1 a0_2 a0_3) else (impl_soundPair_concord.j0 k ((Int.tmod (mx (wrap64 (a0_0 - a0_2)) (wrap64 (-(wrap64 (a0_0 - a0_2))))) 7) != 4) a0_0 a0_1 a0_2 a0_3))
theorem impl_soundPair_concord.mono_l : ∀ k, (∀ y0 y1 y2 y3 y4, LeO (impl_soundPair_concord.j0 k y0 y1 y2 y3 y4) (impl_soundPair_concord.j0 (k + 1) y0 y1 y2 y3 y4))
 | 0 => fun _ _ _ _ _ r h => by simp [impl_soundPair_concord.j0] at h
 | k + 1 => by
  have ih0 := impl_soundPair_concord.mono_l k
  ·intro y0 y1 y2 y3 y4
   unfold impl_soundPair_concord.j0
   repeat' first
   | (with_reducible exact ih0 _ _ _ _ _)
   | (with_reducible exact impl_ToneInterval.mono _ _ _ _ _)
   | (with_reducible exact LeO.refl _)
   | (with_reducible exact LeO.none _)
   | (with_reducible refine LeO.ite ?_ ?_)
   | (with_reducible refine LeO.bind ?_ (fun _ => ?_))
   | exact ih0 _ _ _ _ _
   | exact impl_ToneInterval.mono _ _ _ _ _
   | exact LeO.none _
   | refine LeO.ite ?_ ?_
   | refine LeO.bind ?_ (fun _ => ?_)
theorem impl_soundPair_concord.mono : ∀ a0 a1 a2 a3 k, LeO (impl_soundPair_concord.f k a0 a1 a2 a3) (impl_soundPair_concord.f (k + 1) a0 a1 a2 a3) := by
 intro a0 a1 a2 a3 k
 have ih0 := impl_soundPair_concord.mono_l k
 unfold impl_soundPair_concord.f
 repeat' first
   | (with_reducible exact ih0 _ _ _ _ _)
   | (with_reducible exact impl_ToneInterval.mono _ _ _ _ _)
   | (with_reducible exact LeO.refl _)
   | (with_reducible exact LeO.none _)
   | (with_reducible refine LeO.ite ?_ ?_)
   | (with_reducible refine LeO.bind ?_ (fun _ => ?_))
   | exact ih0 _ _ _ _ _
   | exact impl_ToneInterval.mono _ _ _ _ _
   | exact LeO.none _
   | refine LeO.ite ?_ ?_
   | refine LeO.bind ?_ (fun _ => ?_)
set_option maxHeartbeats 8000000 in
set_option maxRecDepth 100000 in
theorem impl_soundPair_concord.calls (k : Nat) (a0_0 : Int) (a0_1 : Bool) (a0_2 : Int) (a0_3 : Bool) (r : Bool) (w : World) (hTH : TabH w) (hTI : TabI w) (h : impl_soundPair_concord.f k a0_0 a0_1 a0_2 a0_3 = some r) :
  Calls Tryd.prog 69 #[.agg #[.int .i64 a0_0, .bool a0_1, .int .i64 a0_2, .bool a0_3]] w fun e w' => e = .returned (.bool r) ∧ Below w.heap.size w w' := by
 have hu85 := Tryd.underlying85
 have hu30 := Tryd.underlying30
 have HTH := am hTH
 clear hTH
 have HTI := am hTI
 clear hTI
 have HB := am (Below.refl w.heap.size w)
 have H : (if (Int.tmod (mx (wrap64 (a0_0 - a0_2)) (wrap64 (-(wrap64 (a0_0 - a0_2))))) 7) = 0 then (impl_soundPair_concord.j0 k false a0_0 a0_1 a0_2 a0_3) else (if (Int.tmod (mx (wrap64 (a0_0 - a0_2)) (wrap64 (-(wrap64 (a0_0 - a0_2))))) 7) = 3 then (impl_soundPair_concord.j0 k false a0_0 a0_1 a0_2 a0_3) else (impl_soundPair_concord.j0 k ((Int.tmod (mx (wrap64 (a0_0 - a0_2)) (wrap64 (-(wrap64 (a0_0 - a0_2))))) 7) != 4) a0_0 a0_1 a0_2 a0_3))) = some r := h
 clear h
 obtain ⟨ji2, hji2⟩ : ∃ j_ : Int, (mx (wrap64 (a0_0 - a0_2)) (wrap64 (-(wrap64 (a0_0 - a0_2))))) = j_ := ⟨_, rfl⟩
 replace H : (if (Int.tmod (ji2) 7) = 0 then (impl_soundPair_concord.j0 k false a0_0 a0_1 a0_2 a0_3) else (if (Int.tmod (ji2) 7) = 3 then (impl_soundPair_concord.j0 k false a0_0 a0_1 a0_2 a0_3) else (impl_soundPair_concord.j0 k ((Int.tmod (ji2) 7) != 4) a0_0 a0_1 a0_2 a0_3))) = some r := by first | (rw [hji2] at H; exact H) | (simp only [hji2] at H ⊢; exact H)
 have hji2_ : (if (wrap64 (a0_0 - a0_2)) < (wrap64 (-(wrap64 (a0_0 - a0_2)))) then (wrap64 (-(wrap64 (a0_0 - a0_2)))) else (wrap64 (a0_0 - a0_2))) = ji2 := hji2
 have HC3 := am H
 clear H
 go_enter Tryd.func69, Tryd.ntmps69
 go_upto_region 3 with (first | ((with_reducible refine gate_dst (N := 1) rfl ?_); refine box_event ?hg (N := 1) ?hd (cs := #[.int .i64 a0_0, .bool a0_1, .int .i64 a0_2, .bool a0_3]) (t := 85) ?hr ?_; (case hd => rfl); (case hg => rfl); (case hr => first | (go_simp; done) | (go_simp; rfl)); intro gb106 hg w4 hbox hb; have n0_ := am (below_step (bu HB.out) hb); have n1_ := am (hbox); have n2_ := am ((by rw [hg]; exact (below_size (bu HB.out)) : w.heap.size ≤ gb106)); have n3_ := am ((by rw [hg]; exact (below_size (bu HB.out)) : w.heap.size ≤ gb106)); clear HB; have HB := n0_; have BK106 := n1_; have GW106 := n2_; have GE106 := n3_; clear n0_ n1_ n2_ n3_; clear hb hbox hg; have hcz5_0 : w4.cell? ⟨gb106, 0, none⟩ = some (.int .i64 a0_0) := (blk_cell BK106.out 0).trans rfl; have hcz5_1 : w4.cell? ⟨gb106, 1, none⟩ = some (.bool a0_1) := (blk_cell BK106.out 1).trans rfl; have hcz5_2 : w4.cell? ⟨gb106, 2, none⟩ = some (.int .i64 a0_2) := (blk_cell BK106.out 2).trans rfl; have hcz5_3 : w4.cell? ⟨gb106, 3, none⟩ = some (.bool a0_3) := (blk_cell BK106.out 3).trans rfl; have hfz5_0 := blk_frozen BK106.out 0; have hfz5_1 := blk_frozen BK106.out 1; have hfz5_2 := blk_frozen BK106.out 2; have hfz5_3 := blk_frozen BK106.out 3))
 (try simp only [Act.put, sA, sZ, sS])
 go_cut [25] (fun v25 wc => ∃ (kq : Nat) (x25_2 : Bool), v25 = .bool x25_2 ∧ Aside0 (impl_soundPair_concord.j0 kq x25_2 a0_0 a0_1 a0_2 a0_3 = some r) ∧ Aside0 (kq ≤ k) ∧ Aside0 (wc.heap[gb106]? = some (.cells #[.int .i64 a0_0, .bool a0_1, .int .i64 a0_2, .bool a0_3] 85 (0, 0))) ∧ Aside0 (Below w.heap.size w wc))
 case first =>
  have H := HC3.out
  clear HC3
  by_cases c6 : (Int.tmod (ji2) 7) = 0
  ·rw [if_pos c6] at H
   have c6b0 : ((Int.tmod (ji2) 7) == 0) = true := beq_iff_eq.mpr c6
   have c6b1 : ((Int.tmod (ji2) 7) != 0) = false := bne_eq_false_iff_eq.mpr c6
   clear c6
   (first | rw [c6b0] | (simp only [i64_w, i32_w]; rw [c6b0]) | skip)
   have H' := am H
   clear H
   go_wp2
   go_meet
   case rel => exact ⟨_, (false), (by first | rfl | (simp; done) | (simp [*]; done)), H', ⟨by first | omega | exact Nat.le_refl _⟩, ⟨gu BK106.out⟩, ⟨bu HB.out⟩⟩
  ·rw [if_neg c6] at H
   have c6b0 : ((Int.tmod (ji2) 7) == 0) = false := beq_eq_false_iff_ne.mpr c6
   have c6b1 : ((Int.tmod (ji2) 7) != 0) = true := bne_iff_ne.mpr c6
   (first | rw [c6b0] | (simp only [i64_w, i32_w]; rw [c6b0]) | skip)
   by_cases c7 : (Int.tmod (ji2) 7) = 3
   ·rw [if_pos c7] at H
    have c7b0 : ((Int.tmod (ji2) 7) == 3) = true := beq_iff_eq.mpr c7
    have c7b1 : ((Int.tmod (ji2) 7) != 3) = false := bne_eq_false_iff_eq.mpr c7
    clear c7
    have H' := am H
    clear H
    go_wp2
    go_meet
    case rel => exact ⟨_, (false), (by first | rfl | (simp; done) | (simp [*]; done)), H', ⟨by first | omega | exact Nat.le_refl _⟩, ⟨gu BK106.out⟩, ⟨bu HB.out⟩⟩
   ·rw [if_neg c7] at H
    have c7b0 : ((Int.tmod (ji2) 7) == 3) = false := beq_eq_false_iff_ne.mpr c7
    have c7b1 : ((Int.tmod (ji2) 7) != 3) = true := bne_iff_ne.mpr c7
    have H' := am H
    clear H
    go_wp2
    go_meet
    case rel => exact ⟨_, (((Int.tmod (ji2) 7) != 4)), (by first | rfl | (simp; done) | (simp only [← hji2] <;> (first | rfl | simp)) | (simp [*]; done)), H', ⟨by first | omega | exact Nat.le_refl _⟩, ⟨gu BK106.out⟩, ⟨bu HB.out⟩⟩
 case rest =>
  clear HC3
  try clear p2
  try clear c6
  try clear c6b0
  try clear c6b1
  try clear p6
  try clear c7
  try clear c7b0
  try clear c7b1
  try clear hcz5_0
  try clear hcz5_1
  try clear hcz5_2
  try clear hcz5_3
  try clear hfz5_0
  try clear hfz5_1
  try clear hfz5_2
  try clear hfz5_3
  obtain ⟨kq, x25_2, rfl, HA, HJ2, BK106, HB⟩ := hcut
  cases kq with
  | zero => exact absurd HA.out (by simp [impl_soundPair_concord.j0])
  | succ kj2 =>
   have H := HA.out
   clear HA
   simp only [impl_soundPair_concord.j0] at H
   by_cases c8 : x25_2 = true
   ·subst c8
    have H1 : (some false) = some r := by rw [if_pos rfl] at H; exact H
    clear H
    have H := H1
    clear H1
    obtain rfl := Option.some.inj H
    go_wp2
    go_ret
    exact ⟨by first | rfl | (simp [errW_none, errW_some] <;> rfl) | (simp only [← hji2]; first | rfl | (simp [errW_none, errW_some] <;> rfl)) | (simp [*, errW_none, errW_some] <;> rfl), bu HB.out⟩
   ·replace c8 := Bool.eq_false_iff.mpr c8
    subst c8
    have H1 : ((impl_ToneInterval.f kj2 a0_0 a0_1 a0_2 a0_3).bind fun t107 => ((strings_HasSuffix.f t107 (⟨#[112]⟩ : ByteArray)).bind fun t108 => (some t108))) = some r := by rw [if_neg (show ¬ (false = true) by decide)] at H; exact H
    clear H
    have H := H1
    clear H1
    replace H := Option.bind_eq_some_iff.mp H
    obtain ⟨t107, A90, H⟩ := H
    replace H : ((strings_HasSuffix.f t107 (⟨#[112]⟩ : ByteArray)).bind fun t108 => (some t108)) = some r := H
    have A9 := am A90
    clear A90
    replace H := Option.bind_eq_some_iff.mp H
    obtain ⟨t108, A100, H⟩ := H
    replace H : (some t108) = some r := H
    have A10 := am A100
    clear A100
    obtain rfl := Option.some.inj H
    have hcz11_0 : wc.cell? ⟨gb106, 0, none⟩ = some (.int .i64 a0_0) := (blk_cell BK106.out 0).trans rfl
    have hcz11_1 : wc.cell? ⟨gb106, 1, none⟩ = some (.bool a0_1) := (blk_cell BK106.out 1).trans rfl
    have hcz11_2 : wc.cell? ⟨gb106, 2, none⟩ = some (.int .i64 a0_2) := (blk_cell BK106.out 2).trans rfl
    have hcz11_3 : wc.cell? ⟨gb106, 3, none⟩ = some (.bool a0_3) := (blk_cell BK106.out 3).trans rfl
    have hfz11_0 := blk_frozen BK106.out 0
    have hfz11_1 := blk_frozen BK106.out 1
    have hfz11_2 := blk_frozen BK106.out 2
    have hfz11_3 := blk_frozen BK106.out 3
    go_wp2_with (first | ((with_reducible refine gate_callee (f := 19) rfl ?_); refine goesL_ (some 30) rfl rfl Tryd.func19 (by kernel_rfl) rfl #[.agg #[.int .i64 a0_0, .bool a0_1], .agg #[.int .i64 a0_2, .bool a0_3]] rfl (by (try simp only [List.map_toArray, List.map_cons, List.map_nil]); first | done | rfl | (simp only [List.length_drop, List.length_take]; rfl)) ?_; (with_reducible refine (impl_ToneInterval.calls kj2 a0_0 a0_1 a0_2 a0_3 t107 _ ?side1 ?side2 A9.out).mono ?_); (case side1 => first | exact HTH.out | exact TabAt.below HTH.out (bu HB.out)); (case side2 => first | exact HTI.out | exact TabAt.below HTI.out (bu HB.out)); rintro e w12 ⟨rfl, hb⟩; refine ⟨_, rfl, ?_⟩; have n0_ := am (blk_below (g := gb106) (o := .cells #[.int .i64 a0_0, .bool a0_1, .int .i64 a0_2, .bool a0_3] 85 (0, 0)) (gu BK106.out) hb); have n1_ := am (below_step (bu HB.out) hb); clear BK106; clear HB; have BK106 := n0_; have HB := n1_; clear n0_ n1_; (try clear hb); (try clear hb2); (try clear hk); (try clear hi)) | ((with_reducible refine gate_callee (f := 123) rfl ?_); refine goesL_ (some 31) rfl rfl Tryd.func123 (by kernel_rfl) rfl #[.string t107, .string (⟨#[112]⟩ : ByteArray)] rfl (by (try simp only [List.map_toArray, List.map_cons, List.map_nil]); first | done | rfl | (simp only [List.length_drop, List.length_take]; rfl)) ?_; (with_reducible refine (strings_HasSuffix.calls t107 (⟨#[112]⟩ : ByteArray) t108 _ A10.out).mono ?_); rintro e w' ⟨rfl, ⟨nd, rfl⟩⟩; refine ⟨_, rfl, ?_⟩))
    go_ret
    exact ⟨by first | rfl | (simp [errW_none, errW_some] <;> rfl) | (simp only [← hji2]; first | rfl | (simp [errW_none, errW_some] <;> rfl)) | (simp [*, errW_none, errW_some] <;> rfl), bu HB.out⟩

/-! ### impl_DiscantConcords: function 15 -/
def impl_DiscantConcords.l0 : Nat → List Int → List (S85) → Int → Int → Option (List Int)
 | 0, _, _, _, _ => none
 | k + 1, x5, x17, x18, x19 => if x19 < x18 then (if 0 ≤ x19 then (if x19 < (x17.length : Int) then (if (Int.tmod x19 3) = 0 then ((impl_soundPair_concord.f k ((rd_T85 x17 x19).f0.f0) ((rd_T85 x17 x19).f0.f1) ((rd_T85 x17 x19).f1.f0) ((rd_T85 x17 x19).f1.f1)).bind fun t118 => (if t118 = true then (if x5.length < 17592186044416 then (impl_DiscantConcords.l0 k (x5 ++ [x19]) x17 x18 (wrap64 (x19 + 1))) else (none)) else (impl_DiscantConcords.l0 k x5 x17 x18 (wrap64 (x19 + 1))))) else (impl_DiscantConcords.l0 k x5 x17 x18 (wrap64 (x19 + 1)))) else (none)) else (none)) else (some x5)
def impl_DiscantConcords.f (k : Nat) (l0 : List (S44)) (l1 : List (S44)) : Option (List Int) := (impl_soundsOf.f k l0 l1).bind fun bt112 => (impl_DiscantConcords.l0 k (([] : List Int)) bt112.1 (bt112.1.length : Int) 0)
set_option maxHeartbeats 8000000 in
set_option maxRecDepth 100000 in
theorem impl_DiscantConcords.calls (k : Nat) (A0 : Option Addr) (c0 : Nat) (l0 : List (S44)) (A1 : Option Addr) (c1 : Nat) (l1 : List (S44)) (r : List Int) (w : World) (hr0 : Kd.C k44 w A0 l0.length l0) (hc0 : l0.length ≤ c0) (hr1 : Kd.C k44 w A1 l1.length l1) (hc1 : l1.length ≤ c1) (hTH : TabH w) (hTI : TabI w) (h : impl_DiscantConcords.f k l0 l1 = some r) :
  Calls Tryd.prog 15 #[.slice A0 l0.length c0, .slice A1 l1.length c1] w fun e w' => ∃ v0_ : Value, e = .returned (v0_) ∧ Kd.R (Kd.int .i64) 3 w' w.heap.size (fun _ => True) v0_ r ∧ Below w.heap.size w w' := by
 have hu85 := Tryd.underlying85
 have HTH := am hTH
 clear hTH
 have HTI := am hTI
 clear hTI
 have HR0 := am hr0
 have HC0 := am hc0
 clear hr0 hc0
 have HR1 := am hr1
 have HC1 := am hc1
 clear hr1 hc1
 have HB := am (Below.refl w.heap.size w)
 have H : ((impl_soundsOf.f k l0 l1).bind fun bt112 => (impl_DiscantConcords.l0 k (([] : List Int)) bt112.1 (bt112.1.length : Int) 0)) = some r := h
 clear h
 obtain ⟨y109, hy109⟩ : ∃ y_ : List Int, y_ = (([] : List Int)) := ⟨_, rfl⟩
 replace H : ((impl_soundsOf.f k l0 l1).bind fun bt112 => (impl_DiscantConcords.l0 k y109 bt112.1 (bt112.1.length : Int) 0)) = some r := by first | (rw [hy109]; with_reducible exact H) | (have H2_ := (Option.bind_some _ _).symm.trans H; rw [hy109]; with_reducible exact H2_) | (have H2_ := (Option.bind_some _ _).symm.trans H; with_reducible exact H2_) | with_reducible exact H | (rw [hy109]; exact H) | exact H
 have Ny109 := am hy109
 clear hy109
 replace H := Option.bind_eq_some_iff.mp H
 obtain ⟨⟨t112, t113⟩, A30, H⟩ := H
 replace H : (impl_DiscantConcords.l0 k y109 t112 (t112.length : Int) 0) = some r := H
 have A3 := am A30
 clear A30
 have H' := am H
 clear H
 go_enter Tryd.func15, Tryd.ntmps15
 go_wp2_with (first | ((with_reducible refine gate_dst (N := 10) rfl ?_); refine Kd.R_lit (Kd.int .i64) _ 3 ?hg (N := 10) ?hd (xs := ([] : List Int)) (inner := []) (ok := fun _ => True) (okp := fun _ => True) ?hr ?hp (fun _ hk => hk) trivial (Below.refl _ _) (Nat.le_refl _) (by simp) ?_; (case hd => rfl); (case hg => rfl); (case hr => first | (go_simp; done) | (go_simp; rfl)); (case hp => exact (Reps.none _ _)); intro v110 w4 ho5 hb hg_ hnew_; clear hg_ hnew_; (first | rw [← Ny109.out] at ho5 | (simp only [Int.reduceToNat] at ho5; rw [← Ny109.out] at ho5)); have n0_ := am (Kd.R_lower ho5 (below_size (bu HB.out))); have n1_ := am (below_step (bu HB.out) hb); clear HB; have HO111 := n0_; have HB := n1_; clear n0_ n1_; clear hb ho5) | ((with_reducible refine gate_callee (f := 68) rfl ?_); refine goesL_ (some 14) rfl rfl Tryd.func68 (by kernel_rfl) rfl #[.slice A0 l0.length c0, .slice A1 l1.length c1] rfl (by (try simp only [List.map_toArray, List.map_cons, List.map_nil]); first | done | rfl | (simp only [List.length_drop, List.length_take]; rfl)) ?_; (with_reducible refine (impl_soundsOf.calls k _ _ l0 _ _ l1 t112 t113 _ ?side1 ?side2 ?side3 ?side4 A3.out).mono ?_); (case side1 => repeat (first | exact (Kd.C_below HR0.out HB.out) | (with_reducible refine Kd.C_alloc ?_ _) | (with_reducible refine Kd.C_drewN ?_ _) | (with_reducible refine Kd.C_drew ?_))); (case side2 => exact HC0.out); (case side3 => repeat (first | exact (Kd.C_below HR1.out HB.out) | (with_reducible refine Kd.C_alloc ?_ _) | (with_reducible refine Kd.C_drewN ?_ _) | (with_reducible refine Kd.C_drew ?_))); (case side4 => exact HC1.out); rintro e w6 ⟨v114, rfl, ho0, hb⟩; refine ⟨_, rfl, ?_⟩; have n0_ := am (Kd.R_below (ru HO111.out) hb); have n1_ := am (Kd.R_lower ho0 (below_size (bu HB.out))); have n2_ := am (below_step (bu HB.out) hb); clear HO111; clear HB; have HO111 := n0_; have HO115 := n1_; have HB := n2_; clear n0_ n1_ n2_; (try clear hb); (try clear hb2); (try clear hk); (try clear hi); (try clear ho0); obtain ⟨Ao7, co7, eo7⟩ := Kd.R_slice HO115.out; subst eo7))
 go_loopg [5, 19] k (fun kq v5 v19 w' => ∃ (x5_1 : List Int) (x19_1 : Int), v19 = .int .i64 x19_1 ∧ Aside0 (impl_DiscantConcords.l0 kq x5_1 t112 (t112.length : Int) x19_1 = some r) ∧ Aside0 (kq ≤ k) ∧ Aside0 (Kd.R (Kd.int .i64) 3 w' w.heap.size (fun _ => True) v5 x5_1) ∧ Aside0 (Kd.R k85 85 w' w.heap.size (fun _ => True) (.slice Ao7 t112.length co7) t112) ∧ Aside0 (Below w.heap.size w w'))
 case atStart => exact ⟨(y109), (0), (by first | rfl | (simp; done) | (simp [*]; done)), H', ⟨Nat.le_refl _⟩, ⟨ru HO111.out⟩, ⟨ru HO115.out⟩, ⟨bu HB.out⟩⟩
 case round =>
  clear H'
  try clear c1
  try clear p2
  try clear c6
  obtain ⟨x5_1, x19_1, rfl, HA, HK1, HO_5, HO_17, HB⟩ := hrel
  cases gk with
  | zero => exact absurd HA.out (by simp [impl_DiscantConcords.l0])
  | succ k1 =>
   have H := HA.out
   clear HA
   simp only [impl_DiscantConcords.l0] at H
   by_cases c8 : x19_1 < (t112.length : Int)
   ·rw [if_pos c8] at H
    have c8b0 : decide (x19_1 < (t112.length : Int)) = true := decide_eq_true c8
    clear c8
    by_cases c9 : 0 ≤ x19_1
    ·rw [if_pos c9] at H
     have c9b0 : decide (0 ≤ x19_1) = true := decide_eq_true c9
     clear c9
     by_cases c10 : x19_1 < (t112.length : Int)
     ·rw [if_pos c10] at H
      have c10b0 : decide (x19_1 < (t112.length : Int)) = true := decide_eq_true c10
      clear c10
      by_cases c11 : (Int.tmod x19_1 3) = 0
      ·rw [if_pos c11] at H
       have c11b0 : ((Int.tmod x19_1 3) == 0) = true := beq_iff_eq.mpr c11
       have c11b1 : ((Int.tmod x19_1 3) != 0) = false := bne_eq_false_iff_eq.mpr c11
       clear c11
       replace H := Option.bind_eq_some_iff.mp H
       obtain ⟨t118, A120, H⟩ := H
       replace H : (if t118 = true then (if x5_1.length < 17592186044416 then (impl_DiscantConcords.l0 k1 (x5_1 ++ [x19_1]) t112 (t112.length : Int) (wrap64 (x19_1 + 1))) else (none)) else (impl_DiscantConcords.l0 k1 x5_1 t112 (t112.length : Int) (wrap64 (x19_1 + 1)))) = some r := H
       have A12 := am A120
       clear A120
       by_cases c13 : t118 = true
       ·subst c13
        have H1 : (if x5_1.length < 17592186044416 then (impl_DiscantConcords.l0 k1 (x5_1 ++ [x19_1]) t112 (t112.length : Int) (wrap64 (x19_1 + 1))) else (none)) = some r := by rw [if_pos rfl] at H; exact H
        clear H
        have H := H1
        clear H1
        by_cases c14 : x5_1.length < 17592186044416
        ·rw [if_pos c14] at H
         have LMc14 := am c14
         clear c14
         obtain ⟨y119, hy119⟩ : ∃ y_ : List Int, y_ = (x5_1 ++ [x19_1]) := ⟨_, rfl⟩
         replace H : (impl_DiscantConcords.l0 k1 y119 t112 (t112.length : Int) (wrap64 (x19_1 + 1))) = some r := by first | (rw [hy119]; with_reducible exact H) | (have H2_ := (Option.bind_some _ _).symm.trans H; rw [hy119]; with_reducible exact H2_) | (have H2_ := (Option.bind_some _ _).symm.trans H; with_reducible exact H2_) | with_reducible exact H | (rw [hy119]; exact H) | exact H
         have Ny119 := am hy119
         clear hy119
         have H' := am H
         clear H
         have p116 : 0 ≤ (x19_1 : Int) := od
         have q116 : x19_1 < (t112.length : Int) := od
         obtain ⟨ad116, e116, hx116_0, hx116_1, hx116_2, hx116_3⟩ := at_T85 (Kd.R_reads' HO_17.out).2.2 x19_1 p116 q116
         cases e116
         replace p116 := eq_true p116
         replace q116 := eq_true q116
         go_wp2_with (first | ((with_reducible refine gate_dst (N := 9) rfl ?_); refine box_event ?hg (N := 9) ?hd (cs := #[.int .i64 0, .bool false, .int .i64 0, .bool false]) (t := 85) ?hr ?_; (case hd => rfl); (case hg => rfl); (case hr => first | (go_simp; done) | (go_simp; rfl)); intro gb117 hg w15 hbox hb; have n0_ := am (Kd.R_below (ru HO_5.out) hb); have n1_ := am (Kd.R_below (Kd.R_elderB (ru HO_17.out) gb117 (Nat.le_of_eq hg.symm)) hb); have n2_ := am (below_step (bu HB.out) hb); have n3_ := am (hbox); have n4_ := am ((by rw [hg]; exact (below_size (bu HB.out)) : w.heap.size ≤ gb117)); have n5_ := am ((by rw [hg]; exact (below_size (bu HB.out)) : w.heap.size ≤ gb117)); clear HO_5; clear HO_17; clear HB; have HO_5 := n0_; have HO_17 := n1_; have HB := n2_; have BK117 := n3_; have GW117 := n4_; have GE117 := n5_; clear n0_ n1_ n2_ n3_ n4_ n5_; clear hb hbox hg; have hcz16_0 : w15.cell? ⟨gb117, 0, none⟩ = some (.int .i64 0) := (blk_cell BK117.out 0).trans rfl; have hcz16_1 : w15.cell? ⟨gb117, 1, none⟩ = some (.bool false) := (blk_cell BK117.out 1).trans rfl; have hcz16_2 : w15.cell? ⟨gb117, 2, none⟩ = some (.int .i64 0) := (blk_cell BK117.out 2).trans rfl; have hcz16_3 : w15.cell? ⟨gb117, 3, none⟩ = some (.bool false) := (blk_cell BK117.out 3).trans rfl; have hfz16_0 := blk_frozen BK117.out 0; have hfz16_1 := blk_frozen BK117.out 1; have hfz16_2 := blk_frozen BK117.out 2; have hfz16_3 := blk_frozen BK117.out 3) | (go_at_call 69; (with_reducible refine (impl_soundPair_concord.calls k1 ((rd_T85 t112 x19_1).f0.f0) ((rd_T85 t112 x19_1).f0.f1) ((rd_T85 t112 x19_1).f1.f0) ((rd_T85 t112 x19_1).f1.f1) true _ ?side1 ?side2 A12.out).mono ?_); (case side1 => first | exact HTH.out | exact TabAt.below HTH.out (bu HB.out)); (case side2 => first | exact HTI.out | exact TabAt.below HTI.out (bu HB.out)); rintro e w17 ⟨rfl, hb⟩; have n0_ := am (Kd.R_below (by (with_reducible repeat (first | apply Kd.R_alloc | apply Kd.R_drewN | apply Kd.R_drew)); exact (Kd.R_mono (Kd.R_far (p := ⟨gb117, 3, none⟩) (Kd.R_far (p := ⟨gb117, 2, none⟩) (Kd.R_far (p := ⟨gb117, 1, none⟩) (Kd.R_far (p := ⟨gb117, 0, none⟩) (Kd.R_types HO_5.out BK117.out (by decide)) (fun _ hk => hk.2) (.int .i64 ((rd_T85 t112 x19_1).f0.f0))) (fun _ hk => hk.2) (.bool ((rd_T85 t112 x19_1).f0.f1))) (fun _ hk => hk.2) (.int .i64 ((rd_T85 t112 x19_1).f1.f0))) (fun _ hk => hk.2) (.bool ((rd_T85 t112 x19_1).f1.f1))) (fun _ h_ => h_.1))) hb); have n1_ := am (Kd.R_below (by (with_reducible repeat (first | apply Kd.R_alloc | apply Kd.R_drewN | apply Kd.R_drew)); exact (Kd.R_mono (Kd.R_far (p := ⟨gb117, 3, none⟩) (Kd.R_far (p := ⟨gb117, 2, none⟩) (Kd.R_far (p := ⟨gb117, 1, none⟩) (Kd.R_far (p := ⟨gb117, 0, none⟩) (Kd.R_mono HO_17.out (fun k_ hk => (⟨hk, hk.2⟩ : _ ∧ k_ ≠ gb117))) (fun _ hk => hk.2) (.int .i64 ((rd_T85 t112 x19_1).f0.f0))) (fun _ hk => hk.2) (.bool ((rd_T85 t112 x19_1).f0.f1))) (fun _ hk => hk.2) (.int .i64 ((rd_T85 t112 x19_1).f1.f0))) (fun _ hk => hk.2) (.bool ((rd_T85 t112 x19_1).f1.f1))) (fun _ h_ => h_.1))) hb); have n2_ := am (blk_below (g := gb117) (o := .cells #[.int .i64 ((rd_T85 t112 x19_1).f0.f0), .bool ((rd_T85 t112 x19_1).f0.f1), .int .i64 ((rd_T85 t112 x19_1).f1.f0), .bool ((rd_T85 t112 x19_1).f1.f1)] 85 (0, 0)) (by (with_reducible repeat (first | refine blk_drewN ?_ _ | refine blk_drew ?_ | refine blk_alloc ?_ _)); refine blk_put (cs := #[.int .i64 ((rd_T85 t112 x19_1).f0.f0), .bool ((rd_T85 t112 x19_1).f0.f1), .int .i64 ((rd_T85 t112 x19_1).f1.f0), .bool false]) ?_ 3 _ rfl; (with_reducible repeat (first | refine blk_drewN ?_ _ | refine blk_drew ?_ | refine blk_alloc ?_ _)); refine blk_put (cs := #[.int .i64 ((rd_T85 t112 x19_1).f0.f0), .bool ((rd_T85 t112 x19_1).f0.f1), .int .i64 0, .bool false]) ?_ 2 _ rfl; (with_reducible repeat (first | refine blk_drewN ?_ _ | refine blk_drew ?_ | refine blk_alloc ?_ _)); refine blk_put (cs := #[.int .i64 ((rd_T85 t112 x19_1).f0.f0), .bool false, .int .i64 0, .bool false]) ?_ 1 _ rfl; (with_reducible repeat (first | refine blk_drewN ?_ _ | refine blk_drew ?_ | refine blk_alloc ?_ _)); refine blk_put (cs := #[.int .i64 0, .bool false, .int .i64 0, .bool false]) ?_ 0 _ rfl; (with_reducible repeat (first | refine blk_drewN ?_ _ | refine blk_drew ?_ | refine blk_alloc ?_ _)); exact BK117.out) hb); have n3_ := am (below_step (bu HB.out) hb); clear HO_5; clear HO_17; clear BK117; clear HB; have HO_5 := n0_; have HO_17 := n1_; have BK117 := n2_; have HB := n3_; clear n0_ n1_ n2_ n3_; (try clear hb); (try clear hb2); (try clear hk); (try clear hi)) | ((with_reducible refine gate_builtin (b := .append) (xs := #[.tmp 31, .tmp 33]) rfl ?_); at_builtin; refine Kd.R_append (Kd.int .i64) (w0 := w) w.heap.size rfl (.tmp 31) (.tmp 33) 26 3 (.int .i64 0) 8 rfl Tryd.underlying26 info3 rfl (by decide) (by omega) u5 x5_1 x19_1 [.int .i64 x19_1] (fun _ => True) (fun _ => False) rfl rfl ?aP (fun _ hk => hk.elim) ?aF ?aO ?aB ?aS ?aL ?_; (case aP => exact rfl); (case aB => exact (bu HB.out)); (case aF => exact (fun _ _ => trivial)); (case aO => exact (ru HO_5.out)); (case aS => exact (below_size (bu HB.out))); (case aL => have := LMc14.out; omega); intro v120 w18 ho hb hg hat; rw [← Ny119.out] at ho; have n0_ := am (Kd.R_over' (ru HO_17.out) (Kd.R_typed (ru HO_5.out)) (by decide) hg); have n1_ := am (blk_grown (g := gb117) (o := .cells #[.int .i64 ((rd_T85 t112 x19_1).f0.f0), .bool ((rd_T85 t112 x19_1).f0.f1), .int .i64 ((rd_T85 t112 x19_1).f1.f0), .bool ((rd_T85 t112 x19_1).f1.f1)] 85 (0, 0)) (gu BK117.out) hg (Kd.R_ne HO_5.out BK117.out (by decide))); have n2_ := am (hb); have n3_ := am (ho); clear HO_17; clear BK117; clear HB; clear HO_5; have HO_17 := n0_; have BK117 := n1_; have HB := n2_; have HO121 := n3_; clear n0_ n1_ n2_ n3_; clear ho hb hg hat))
         go_roundg k1
         case measure => have := HK1.out; omega
         case rel => exact ⟨(y119), (wrap64 (x19_1 + 1)), (by first | rfl | (simp; done) | (simp [*]; done)), H', ⟨by have := HK1.out; omega⟩, ⟨ru HO121.out⟩, ⟨by (with_reducible repeat (first | apply Kd.R_alloc | apply Kd.R_drewN | apply Kd.R_drew)); exact Kd.R_mono HO_17.out (fun _ hk => trivial)⟩, ⟨bu HB.out⟩⟩
        ·rw [if_neg c14] at H
         exact absurd H (by simp)
       ·replace c13 := Bool.eq_false_iff.mpr c13
        subst c13
        have H1 : (impl_DiscantConcords.l0 k1 x5_1 t112 (t112.length : Int) (wrap64 (x19_1 + 1))) = some r := by rw [if_neg (show ¬ (false = true) by decide)] at H; exact H
        clear H
        have H := H1
        clear H1
        have H' := am H
        clear H
        have p116 : 0 ≤ (x19_1 : Int) := od
        have q116 : x19_1 < (t112.length : Int) := od
        obtain ⟨ad116, e116, hx116_0, hx116_1, hx116_2, hx116_3⟩ := at_T85 (Kd.R_reads' HO_17.out).2.2 x19_1 p116 q116
        cases e116
        replace p116 := eq_true p116
        replace q116 := eq_true q116
        go_wp2_with (first | ((with_reducible refine gate_dst (N := 9) rfl ?_); refine box_event ?hg (N := 9) ?hd (cs := #[.int .i64 0, .bool false, .int .i64 0, .bool false]) (t := 85) ?hr ?_; (case hd => rfl); (case hg => rfl); (case hr => first | (go_simp; done) | (go_simp; rfl)); intro gb117 hg w19 hbox hb; have n0_ := am (Kd.R_below (ru HO_5.out) hb); have n1_ := am (Kd.R_below (Kd.R_elderB (ru HO_17.out) gb117 (Nat.le_of_eq hg.symm)) hb); have n2_ := am (below_step (bu HB.out) hb); have n3_ := am (hbox); have n4_ := am ((by rw [hg]; exact (below_size (bu HB.out)) : w.heap.size ≤ gb117)); have n5_ := am ((by rw [hg]; exact (below_size (bu HB.out)) : w.heap.size ≤ gb117)); clear HO_5; clear HO_17; clear HB; have HO_5 := n0_; have HO_17 := n1_; have HB := n2_; have BK117 := n3_; have GW117 := n4_; have GE117 := n5_; clear n0_ n1_ n2_ n3_ n4_ n5_; clear hb hbox hg; have hcz20_0 : w19.cell? ⟨gb117, 0, none⟩ = some (.int .i64 0) := (blk_cell BK117.out 0).trans rfl; have hcz20_1 : w19.cell? ⟨gb117, 1, none⟩ = some (.bool false) := (blk_cell BK117.out 1).trans rfl; have hcz20_2 : w19.cell? ⟨gb117, 2, none⟩ = some (.int .i64 0) := (blk_cell BK117.out 2).trans rfl; have hcz20_3 : w19.cell? ⟨gb117, 3, none⟩ = some (.bool false) := (blk_cell BK117.out 3).trans rfl; have hfz20_0 := blk_frozen BK117.out 0; have hfz20_1 := blk_frozen BK117.out 1; have hfz20_2 := blk_frozen BK117.out 2; have hfz20_3 := blk_frozen BK117.out 3) | (go_at_call 69; (with_reducible refine (impl_soundPair_concord.calls k1 ((rd_T85 t112 x19_1).f0.f0) ((rd_T85 t112 x19_1).f0.f1) ((rd_T85 t112 x19_1).f1.f0) ((rd_T85 t112 x19_1).f1.f1) false _ ?side1 ?side2 A12.out).mono ?_); (case side1 => first | exact HTH.out | exact TabAt.below HTH.out (bu HB.out)); (case side2 => first | exact HTI.out | exact TabAt.below HTI.out (bu HB.out)); rintro e w21 ⟨rfl, hb⟩; have n0_ := am (Kd.R_below (by (with_reducible repeat (first | apply Kd.R_alloc | apply Kd.R_drewN | apply Kd.R_drew)); exact (Kd.R_mono (Kd.R_far (p := ⟨gb117, 3, none⟩) (Kd.R_far (p := ⟨gb117, 2, none⟩) (Kd.R_far (p := ⟨gb117, 1, none⟩) (Kd.R_far (p := ⟨gb117, 0, none⟩) (Kd.R_types HO_5.out BK117.out (by decide)) (fun _ hk => hk.2) (.int .i64 ((rd_T85 t112 x19_1).f0.f0))) (fun _ hk => hk.2) (.bool ((rd_T85 t112 x19_1).f0.f1))) (fun _ hk => hk.2) (.int .i64 ((rd_T85 t112 x19_1).f1.f0))) (fun _ hk => hk.2) (.bool ((rd_T85 t112 x19_1).f1.f1))) (fun _ h_ => h_.1))) hb); have n1_ := am (Kd.R_below (by (with_reducible repeat (first | apply Kd.R_alloc | apply Kd.R_drewN | apply Kd.R_drew)); exact (Kd.R_mono (Kd.R_far (p := ⟨gb117, 3, none⟩) (Kd.R_far (p := ⟨gb117, 2, none⟩) (Kd.R_far (p := ⟨gb117, 1, none⟩) (Kd.R_far (p := ⟨gb117, 0, none⟩) (Kd.R_mono HO_17.out (fun k_ hk => (⟨hk, hk.2⟩ : _ ∧ k_ ≠ gb117))) (fun _ hk => hk.2) (.int .i64 ((rd_T85 t112 x19_1).f0.f0))) (fun _ hk => hk.2) (.bool ((rd_T85 t112 x19_1).f0.f1))) (fun _ hk => hk.2) (.int .i64 ((rd_T85 t112 x19_1).f1.f0))) (fun _ hk => hk.2) (.bool ((rd_T85 t112 x19_1).f1.f1))) (fun _ h_ => h_.1))) hb); have n2_ := am (blk_below (g := gb117) (o := .cells #[.int .i64 ((rd_T85 t112 x19_1).f0.f0), .bool ((rd_T85 t112 x19_1).f0.f1), .int .i64 ((rd_T85 t112 x19_1).f1.f0), .bool ((rd_T85 t112 x19_1).f1.f1)] 85 (0, 0)) (by (with_reducible repeat (first | refine blk_drewN ?_ _ | refine blk_drew ?_ | refine blk_alloc ?_ _)); refine blk_put (cs := #[.int .i64 ((rd_T85 t112 x19_1).f0.f0), .bool ((rd_T85 t112 x19_1).f0.f1), .int .i64 ((rd_T85 t112 x19_1).f1.f0), .bool false]) ?_ 3 _ rfl; (with_reducible repeat (first | refine blk_drewN ?_ _ | refine blk_drew ?_ | refine blk_alloc ?_ _)); refine blk_put (cs := #[.int .i64 ((rd_T85 t112 x19_1).f0.f0), .bool ((rd_T85 t112 x19_1).f0.f1), .int .i64 0, .bool false]) ?_ 2 _ rfl; (with_reducible repeat (first | refine blk_drewN ?_ _ | refine blk_drew ?_ | refine blk_alloc ?_ _)); refine blk_put (cs := #[.int .i64 ((rd_T85 t112 x19_1).f0.f0), .bool false, .int .i64 0, .bool false]) ?_ 1 _ rfl; (with_reducible repeat (first | refine blk_drewN ?_ _ | refine blk_drew ?_ | refine blk_alloc ?_ _)); refine blk_put (cs := #[.int .i64 0, .bool false, .int .i64 0, .bool false]) ?_ 0 _ rfl; (with_reducible repeat (first | refine blk_drewN ?_ _ | refine blk_drew ?_ | refine blk_alloc ?_ _)); exact BK117.out) hb); have n3_ := am (below_step (bu HB.out) hb); clear HO_5; clear HO_17; clear BK117; clear HB; have HO_5 := n0_; have HO_17 := n1_; have BK117 := n2_; have HB := n3_; clear n0_ n1_ n2_ n3_; (try clear hb); (try clear hb2); (try clear hk); (try clear hi)))
        go_roundg k1
        case measure => have := HK1.out; omega
        case rel => exact ⟨(x5_1), (wrap64 (x19_1 + 1)), (by first | rfl | (simp; done) | (simp [*]; done)), H', ⟨by have := HK1.out; omega⟩, ⟨ru HO_5.out⟩, ⟨by (with_reducible repeat (first | apply Kd.R_alloc | apply Kd.R_drewN | apply Kd.R_drew)); exact Kd.R_mono HO_17.out (fun _ hk => trivial)⟩, ⟨bu HB.out⟩⟩
      ·rw [if_neg c11] at H
       have c11b0 : ((Int.tmod x19_1 3) == 0) = false := beq_eq_false_iff_ne.mpr c11
       have c11b1 : ((Int.tmod x19_1 3) != 0) = true := bne_iff_ne.mpr c11
       have H' := am H
       clear H
       have p116 : 0 ≤ (x19_1 : Int) := od
       have q116 : x19_1 < (t112.length : Int) := od
       obtain ⟨ad116, e116, hx116_0, hx116_1, hx116_2, hx116_3⟩ := at_T85 (Kd.R_reads' HO_17.out).2.2 x19_1 p116 q116
       cases e116
       replace p116 := eq_true p116
       replace q116 := eq_true q116
       go_wp2_with (first | ((with_reducible refine gate_dst (N := 9) rfl ?_); refine box_event ?hg (N := 9) ?hd (cs := #[.int .i64 0, .bool false, .int .i64 0, .bool false]) (t := 85) ?hr ?_; (case hd => rfl); (case hg => rfl); (case hr => first | (go_simp; done) | (go_simp; rfl)); intro gb117 hg w22 hbox hb; have n0_ := am (Kd.R_below (ru HO_5.out) hb); have n1_ := am (Kd.R_below (Kd.R_elderB (ru HO_17.out) gb117 (Nat.le_of_eq hg.symm)) hb); have n2_ := am (below_step (bu HB.out) hb); have n3_ := am (hbox); have n4_ := am ((by rw [hg]; exact (below_size (bu HB.out)) : w.heap.size ≤ gb117)); have n5_ := am ((by rw [hg]; exact (below_size (bu HB.out)) : w.heap.size ≤ gb117)); clear HO_5; clear HO_17; clear HB; have HO_5 := n0_; have HO_17 := n1_; have HB := n2_; have BK117 := n3_; have GW117 := n4_; have GE117 := n5_; clear n0_ n1_ n2_ n3_ n4_ n5_; clear hb hbox hg; have hcz23_0 : w22.cell? ⟨gb117, 0, none⟩ = some (.int .i64 0) := (blk_cell BK117.out 0).trans rfl; have hcz23_1 : w22.cell? ⟨gb117, 1, none⟩ = some (.bool false) := (blk_cell BK117.out 1).trans rfl; have hcz23_2 : w22.cell? ⟨gb117, 2, none⟩ = some (.int .i64 0) := (blk_cell BK117.out 2).trans rfl; have hcz23_3 : w22.cell? ⟨gb117, 3, none⟩ = some (.bool false) := (blk_cell BK117.out 3).trans rfl; have hfz23_0 := blk_frozen BK117.out 0; have hfz23_1 := blk_frozen BK117.out 1; have hfz23_2 := blk_frozen BK117.out 2; have hfz23_3 := blk_frozen BK117.out 3))
       go_roundg k1
       case measure => have := HK1.out; omega
       case rel => exact ⟨(x5_1), (wrap64 (x19_1 + 1)), (by first | rfl | (simp; done) | (simp [*]; done)), H', ⟨by have := HK1.out; omega⟩, ⟨by (with_reducible repeat (first | apply Kd.R_alloc | apply Kd.R_drewN | apply Kd.R_drew)); exact Kd.R_mono (Kd.R_far (p := ⟨gb117, 3, none⟩) (Kd.R_far (p := ⟨gb117, 2, none⟩) (Kd.R_far (p := ⟨gb117, 1, none⟩) (Kd.R_far (p := ⟨gb117, 0, none⟩) (Kd.R_types HO_5.out BK117.out (by decide)) (fun _ hk => hk.2) (.int .i64 ((rd_T85 t112 x19_1).f0.f0))) (fun _ hk => hk.2) (.bool ((rd_T85 t112 x19_1).f0.f1))) (fun _ hk => hk.2) (.int .i64 ((rd_T85 t112 x19_1).f1.f0))) (fun _ hk => hk.2) (.bool ((rd_T85 t112 x19_1).f1.f1))) (fun _ hk => trivial)⟩, ⟨by (with_reducible repeat (first | apply Kd.R_alloc | apply Kd.R_drewN | apply Kd.R_drew)); exact Kd.R_mono (Kd.R_far (p := ⟨gb117, 3, none⟩) (Kd.R_far (p := ⟨gb117, 2, none⟩) (Kd.R_far (p := ⟨gb117, 1, none⟩) (Kd.R_far (p := ⟨gb117, 0, none⟩) (Kd.R_mono HO_17.out (fun k_ hk => (⟨hk, hk.2⟩ : _ ∧ k_ ≠ gb117))) (fun _ hk => hk.2) (.int .i64 ((rd_T85 t112 x19_1).f0.f0))) (fun _ hk => hk.2) (.bool ((rd_T85 t112 x19_1).f0.f1))) (fun _ hk => hk.2) (.int .i64 ((rd_T85 t112 x19_1).f1.f0))) (fun _ hk => hk.2) (.bool ((rd_T85 t112 x19_1).f1.f1))) (fun _ hk => trivial)⟩, ⟨bu HB.out⟩⟩
     ·rw [if_neg c10] at H
      exact absurd H (by simp)
    ·rw [if_neg c9] at H
     exact absurd H (by simp)
   ·rw [if_neg c8] at H
    have c8b0 : decide (x19_1 < (t112.length : Int)) = false := decide_eq_false c8
    clear c8
    obtain rfl := Option.some.inj H
    go_wp2
    go_ret
    exact ⟨_, by first | rfl | (simp [errW_none, errW_some] <;> rfl) | (simp [*, errW_none, errW_some] <;> rfl), ru HO_5.out, bu HB.out⟩

/-- The number of beats of a part, or -1. -/
def impl_PartBeats.f (k : Nat) (l0 : List (S44)) : Option Int := (impl_PartValid.f k l0).bind fun b => some (if b = true then ((expand l0).length : Int) else -1)
set_option maxHeartbeats 2000000 in
set_option maxRecDepth 100000 in
theorem impl_PartBeats.calls (k : Nat) (A0 : Option Addr) (c0 : Nat) (l0 : List (S44)) (r : Int) (w : World) (hr0 : Kd.C k44 w A0 l0.length l0) (hc0 : l0.length ≤ c0) (h : impl_PartBeats.f k l0 = some r) :
  Calls Tryd.prog 20 #[.slice A0 l0.length c0] w fun e w' => e = .returned (.int .i64 r) ∧ Below w.heap.size w w' := by
 obtain ⟨b, hb, h⟩ := Option.bind_eq_some_iff.mp h
 have HR0 := am hr0
 have HC0 := am hc0
 have H := am hb
 clear hr0 hc0 hb
 have hu79 := Tryd.underlying94
 cases b with
 | false =>
  obtain rfl := Option.some.inj h
  go_enter Tryd.func20, Tryd.ntmps20
  go_wp2_with (first | (go_at_call 74; (with_reducible refine (ringOf_no k A0 c0 l0 _ HR0.out HC0.out H.out).mono ?_); rintro e w1 ⟨rfl, hb⟩))
  go_ret
  exact ⟨rfl, hb⟩
 | true =>
  obtain rfl := Option.some.inj h
  obtain ⟨hl, hv⟩ := valid_true H.out
  have HV := am (show ∀ v ∈ l0, 0 ≤ v.f1 ∧ v.f1 ≤ 3 from fun v hv' => ⟨by have := hv v hv'; omega, (hv v hv').2⟩)
  clear hv
  go_enter Tryd.func20, Tryd.ntmps20
  go_wp2_with (first | (go_at_call 74; (with_reducible refine (ringOf_yes k A0 c0 l0 _ HR0.out HC0.out H.out HV.out hl).mono ?_); rintro e w1 ⟨g, rfl, B, hR⟩; have HR := am hR; have hc := blk_cell hR.ring 2; clear hR))
  go_ret
  exact ⟨rfl, HR.out.below⟩


end Go.Proofs.YtcndojoghmblaaaDoor.GE
