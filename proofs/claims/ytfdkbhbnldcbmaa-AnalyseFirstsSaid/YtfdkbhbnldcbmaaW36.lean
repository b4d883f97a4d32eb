/- Walks: what operators make of sets. -/
import Derived.Test.YtfdkbhbnldcbmaaW35
namespace Go.Proofs.Ytfdkbhbnldcbmaa
open Go.RowKit
set_option linter.unusedVariables false
set_option linter.unusedSimpArgs false

/-- a set that fits, or what is wrong -/
def setOut (err : Int) (s : List Sp) : List Sp × Int := if err ≠ 0 then ([], err) else if 200 < s.length then ([], 5) else (s, 0)
theorem setOut_bad {err : Int} {s : List Sp} (h : err ≠ 0) : setOut err s = ([], err) := by unfold setOut; rw [if_pos h]
theorem setOut_big {s : List Sp} (h : 200 < s.length) : setOut 0 s = ([], 5) := by unfold setOut; rw [if_neg (by simp), if_pos h]
theorem setOut_ok {s : List Sp} (h : ¬ 200 < s.length) : setOut 0 s = (s, 0) := by unfold setOut; rw [if_neg (by simp), if_neg h]
abbrev SetO (p : List Sp × Int) (w' : World) (e : Ending) : Prop := SetR p.1 p.2 w' e
theorem SetR.pair {p : List Sp × Int} {s : List Sp} {er : Int} {w' : World} {e : Ending} (h : p = (s, er)) (k : SetR s er w' e) : SetR p.1 p.2 w' e := by rw [h]; exact k
theorem good_ok {l : List Sp} (h : Good l) : ∀ x ∈ l, okSp x := fun x hx => h.rng x hx
theorem wrongSets_two {a b : List Sp} (h : wrongSets [a, b] = 0) : wrongSet a = 0 ∧ wrongSet b = 0 := by
  have := wrongSets_zero h
  exact ⟨this a (by simp), this b (by simp)⟩
theorem meetL_len : ∀ (a b : List Sp), (meetL a b).length ≤ a.length + b.length
  | [], b => by rw [meetL_nil]; simp
  | x :: a, [] => by rw [meetL_nil']; simp
  | x :: a, y :: b => by
    rw [meetL_cons, List.length_append]
    have h1 : (if max x.lo y.lo ≤ min x.hi y.hi then [(⟨max x.lo y.lo, min x.hi y.hi⟩ : Sp)] else []).length ≤ 1 := by split <;> simp
    by_cases hm : x.hi < y.hi
    · rw [if_pos hm]; have := meetL_len a (y :: b); simp only [List.length_cons] at this ⊢; omega
    · rw [if_neg hm]; have := meetL_len (x :: a) b; simp only [List.length_cons] at this ⊢; omega
termination_by a b => a.length + b.length

set_option maxRecDepth 100000 in
set_option maxHeartbeats 1600000 in
theorem NotS_any (A : Option Addr) (n c : Nat) (a : List Sp) (w : World) (hA : Spans w A n c a) :
    Calls Try.prog 65 #[.slice A n c] w fun e w' => SetO (setOut (wrongSets [a]) (notL a)) w' e ∧ Ext w w' := by
  have e1 := (Ext.refl w).alloc (.cells #[.slice A n c] 67)
  have HC := Lib.hid (setsRight_any _ 1 1 [a] _ (sets_one 67 hA) (by omega))
  by_cases hz : wrongSets [a] = 0
  · rw [hz] at HC ⊢
    have G := good_of (by rw [wrongSets_one] at hz; exact hz)
    have HN := Lib.hid (fun W (e : Ext w W) => not_any A n c a W (hA.ext e) G)
    clear hz
    by_cases hbig : 200 < (notL a).length
    · have HV := Lib.hid (setOut_big hbig)
      go_enter Try.func65, Try.ntmps65
      go_wp2_with (first
        | (go_at_call 125; refine HC.out.mono ?_; rintro e w1 ⟨rfl, x1⟩; have ex1 := e1.trans x1)
        | (go_at_call 127; refine (HN.out _ ex1).mono ?_; rintro e w2 ⟨v, rfl, ov, x2⟩; obtain ⟨A3, c3, rfl, s3⟩ := ov.top; have e3 := ex1.trans x2)
        | (go_at_call 120; refine (fit_big A3 _ c3 _ hbig s3.cap s3.max).mono ?_; rintro e w' ⟨rfl, rfl⟩))
      go_ret2
      exact ⟨SetR.pair HV.out (SetR.no rfl rfl), e3⟩
    · have HV := Lib.hid (setOut_ok hbig)
      go_enter Try.func65, Try.ntmps65
      go_wp2_with (first
        | (go_at_call 125; refine HC.out.mono ?_; rintro e w1 ⟨rfl, x1⟩; have ex1 := e1.trans x1)
        | (go_at_call 127; refine (HN.out _ ex1).mono ?_; rintro e w2 ⟨v, rfl, ov, x2⟩; obtain ⟨A3, c3, rfl, s3⟩ := ov.top; have e3 := ex1.trans x2)
        | (go_at_call 120; refine (fit_small A3 _ c3 _ hbig).mono ?_; rintro e w' ⟨rfl, rfl⟩))
      go_ret2
      exact ⟨SetR.pair HV.out ⟨A3, c3, rfl, s3⟩, e3⟩
  · have HV := Lib.hid (setOut_bad (s := notL a) hz)
    have hb : (wrongSets [a] != 0) = true := by simpa using hz
    clear hz
    generalize wrongSets [a] = q at *
    go_enter Try.func65, Try.ntmps65
    go_wp2_with (go_at_call 125; refine HC.out.mono ?_; rintro e w1 ⟨rfl, x1⟩)
    go_ret2
    exact ⟨SetR.pair HV.out (SetR.no rfl rfl), e1.trans x1⟩

set_option maxRecDepth 100000 in
set_option maxHeartbeats 1600000 in
theorem MeetS_any (A : Option Addr) (n c : Nat) (a : List Sp) (B : Option Addr) (m d : Nat) (b : List Sp) (w : World) (hA : Spans w A n c a) (hB : Spans w B m d b) :
    Calls Try.prog 68 #[.slice A n c, .slice B m d] w fun e w' => SetO (setOut (wrongSets [a, b]) (meetL a b)) w' e ∧ Ext w w' := by
  have e1 := (Ext.refl w).alloc (.cells #[.slice A n c, .slice B m d] 67)
  have HC := Lib.hid (setsRight_any _ 2 2 [a, b] _ (sets_two 67 hA hB) (by omega))
  by_cases hz : wrongSets [a, b] = 0
  · rw [hz] at HC ⊢
    have G1 := good_of (wrongSets_two hz).1
    have G2 := good_of (wrongSets_two hz).2
    have n1 : n ≤ 200 := by rw [← hA.len]; exact G1.len
    have n2 : m ≤ 200 := by rw [← hB.len]; exact G2.len
    have HM := Lib.hid (fun W (e : Ext w W) => meet_any A n c a B m d b W (hA.ext e) (hB.ext e) (good_ok G1) (good_ok G2) (by omega) (by omega))
    clear hz
    by_cases hbig : 200 < (meetL a b).length
    · have HV := Lib.hid (setOut_big hbig)
      go_enter Try.func68, Try.ntmps68
      go_wp2_with (first
        | (go_at_call 125; refine HC.out.mono ?_; rintro e w1 ⟨rfl, x1⟩; have ex1 := e1.trans x1)
        | (go_at_call 131; refine (HM.out _ ex1).mono ?_; rintro e w2 ⟨v, rfl, ov, x2⟩; obtain ⟨A3, c3, rfl, s3⟩ := ov.top; have e3 := ex1.trans x2)
        | (go_at_call 120; refine (fit_big A3 _ c3 _ hbig s3.cap s3.max).mono ?_; rintro e w' ⟨rfl, rfl⟩))
      go_ret2
      exact ⟨SetR.pair HV.out (SetR.no rfl rfl), e3⟩
    · have HV := Lib.hid (setOut_ok hbig)
      go_enter Try.func68, Try.ntmps68
      go_wp2_with (first
        | (go_at_call 125; refine HC.out.mono ?_; rintro e w1 ⟨rfl, x1⟩; have ex1 := e1.trans x1)
        | (go_at_call 131; refine (HM.out _ ex1).mono ?_; rintro e w2 ⟨v, rfl, ov, x2⟩; obtain ⟨A3, c3, rfl, s3⟩ := ov.top; have e3 := ex1.trans x2)
        | (go_at_call 120; refine (fit_small A3 _ c3 _ hbig).mono ?_; rintro e w' ⟨rfl, rfl⟩))
      go_ret2
      exact ⟨SetR.pair HV.out ⟨A3, c3, rfl, s3⟩, e3⟩
  · have HV := Lib.hid (setOut_bad (s := meetL a b) hz)
    have hb : (wrongSets [a, b] != 0) = true := by simpa using hz
    clear hz
    generalize wrongSets [a, b] = q at *
    go_enter Try.func68, Try.ntmps68
    go_wp2_with (go_at_call 125; refine HC.out.mono ?_; rintro e w1 ⟨rfl, x1⟩)
    go_ret2
    exact ⟨SetR.pair HV.out (SetR.no rfl rfl), e1.trans x1⟩

set_option maxRecDepth 100000 in
set_option maxHeartbeats 1600000 in
theorem MinusS_any (A : Option Addr) (n c : Nat) (a : List Sp) (B : Option Addr) (m d : Nat) (b : List Sp) (w : World) (hA : Spans w A n c a) (hB : Spans w B m d b) :
    Calls Try.prog 69 #[.slice A n c, .slice B m d] w fun e w' => SetO (setOut (wrongSets [a, b]) (meetL a (notL b))) w' e ∧ Ext w w' := by
  have e1 := (Ext.refl w).alloc (.cells #[.slice A n c, .slice B m d] 67)
  have HC := Lib.hid (setsRight_any _ 2 2 [a, b] _ (sets_two 67 hA hB) (by omega))
  by_cases hz : wrongSets [a, b] = 0
  · rw [hz] at HC ⊢
    have G1 := good_of (wrongSets_two hz).1
    have G2 := good_of (wrongSets_two hz).2
    have n1 : n ≤ 200 := by rw [← hA.len]; exact G1.len
    have n2 : (notL b).length ≤ 201 := by have := notFrom_len b 0; have := G2.len; unfold notL; omega
    have HN := Lib.hid (fun W (e : Ext w W) => not_any B m d b W (hB.ext e) G2)
    have HM := Lib.hid (fun W (e : Ext w W) B' d' (hs : Spans W B' (notL b).length d' (notL b)) => meet_any A n c a B' (notL b).length d' (notL b) W (hA.ext e) hs (good_ok G1) (fun x hx => (not_canon G2.canon).rng x hx) (by omega) (by omega))
    clear hz
    by_cases hbig : 200 < (meetL a (notL b)).length
    · have HV := Lib.hid (setOut_big hbig)
      go_enter Try.func69, Try.ntmps69
      go_wp2_with (first
        | (go_at_call 125; refine HC.out.mono ?_; rintro e w1 ⟨rfl, x1⟩; have ex1 := e1.trans x1)
        | (go_at_call 127; refine (HN.out _ ex1).mono ?_; rintro e w2 ⟨v, rfl, ov, x2⟩; obtain ⟨A2, c2, rfl, s2⟩ := ov.top; have e2 := ex1.trans x2)
        | (go_at_call 131; refine (HM.out _ e2 A2 c2 s2).mono ?_; rintro e w3 ⟨v3, rfl, ov3, x3⟩; obtain ⟨A3, c3, rfl, s3⟩ := ov3.top; have e3 := e2.trans x3)
        | (go_at_call 120; refine (fit_big A3 _ c3 _ hbig s3.cap s3.max).mono ?_; rintro e w' ⟨rfl, rfl⟩))
      go_ret2
      exact ⟨SetR.pair HV.out (SetR.no rfl rfl), e3⟩
    · have HV := Lib.hid (setOut_ok hbig)
      go_enter Try.func69, Try.ntmps69
      go_wp2_with (first
        | (go_at_call 125; refine HC.out.mono ?_; rintro e w1 ⟨rfl, x1⟩; have ex1 := e1.trans x1)
        | (go_at_call 127; refine (HN.out _ ex1).mono ?_; rintro e w2 ⟨v, rfl, ov, x2⟩; obtain ⟨A2, c2, rfl, s2⟩ := ov.top; have e2 := ex1.trans x2)
        | (go_at_call 131; refine (HM.out _ e2 A2 c2 s2).mono ?_; rintro e w3 ⟨v3, rfl, ov3, x3⟩; obtain ⟨A3, c3, rfl, s3⟩ := ov3.top; have e3 := e2.trans x3)
        | (go_at_call 120; refine (fit_small A3 _ c3 _ hbig).mono ?_; rintro e w' ⟨rfl, rfl⟩))
      go_ret2
      exact ⟨SetR.pair HV.out ⟨A3, c3, rfl, s3⟩, e3⟩
  · have HV := Lib.hid (setOut_bad (s := meetL a (notL b)) hz)
    have hb : (wrongSets [a, b] != 0) = true := by simpa using hz
    clear hz
    generalize wrongSets [a, b] = q at *
    go_enter Try.func69, Try.ntmps69
    go_wp2_with (go_at_call 125; refine HC.out.mono ?_; rintro e w1 ⟨rfl, x1⟩)
    go_ret2
    exact ⟨SetR.pair HV.out (SetR.no rfl rfl), e1.trans x1⟩

theorem any_bad {a b : List Sp} (ha : ∀ x ∈ a, okSp x) (hb : ∀ x ∈ b, okSp x) : (a ++ b).any spBad = false := by
  rw [List.any_eq_false]
  intro x hx
  have : okSp x := (List.mem_append.1 hx).elim (ha x) (hb x)
  simpa using okSp_iff.2 this

set_option maxRecDepth 100000 in
set_option maxHeartbeats 1600000 in
theorem UnionS_any (A : Option Addr) (n c : Nat) (a : List Sp) (B : Option Addr) (m d : Nat) (b : List Sp) (w : World) (hA : Spans w A n c a) (hB : Spans w B m d b) :
    Calls Try.prog 67 #[.slice A n c, .slice B m d] w fun e w' => SetO (setOut (wrongSets [a, b]) (ofS (a ++ b))) w' e ∧ Ext w w' := by
  have e1 := (Ext.refl w).alloc (.cells #[.slice A n c, .slice B m d] 67)
  have HC := Lib.hid (setsRight_any _ 2 2 [a, b] _ (sets_two 67 hA hB) (by omega))
  by_cases hz : wrongSets [a, b] = 0
  · rw [hz] at HC ⊢
    have G1 := good_of (wrongSets_two hz).1
    have G2 := good_of (wrongSets_two hz).2
    have n1 : n ≤ 200 := by rw [← hA.len]; exact G1.len
    have n2 : m ≤ 200 := by rw [← hB.len]; exact G2.len
    have hfl : [a, b].flatten = a ++ b := by simp
    have hl : (a ++ b).length ≤ 400 := by rw [List.length_append]; have := G1.len; have := G2.len; omega
    have HCo := Lib.hid (fun W (e : Ext w W) => by
      have := Concat_span one_span (keep_span bot) _ 2 2 [a, b] _ (sets_two 67 (hA.ext e) (hB.ext e)) (by rw [hfl]; omega) (fun _ _ h => h)
      rw [hfl] at this; exact this)
    have hnb := any_bad (good_ok G1) (good_ok G2)
    have HV : Hid (setOut 0 (ofS (a ++ b)) = (ofV (a ++ b), ofE (a ++ b))) := Lib.hid (by
      by_cases hbig : 200 < (ofS (a ++ b)).length
      · rw [setOut_big hbig, (ofE_big hnb hbig).1, (ofE_big hnb hbig).2]
      · rw [setOut_ok hbig, (ofE_ok hnb hbig).1, (ofE_ok hnb hbig).2])
    clear hz hnb hfl
    generalize hu : a ++ b = u at *
    have HO := Lib.hid (fun W A' c' (hs : Spans W A' u.length c' u) => Of_any A' u.length c' u W hs (by omega))
    clear hu
    go_enter Try.func67, Try.ntmps67
    go_wp2_with (first
      | (go_at_call 125; refine HC.out.mono ?_; rintro e w1 ⟨rfl, x1⟩; have ex1 := e1.trans x1)
      | (go_at_call 130; refine (HCo.out _ ex1).mono ?_; rintro e w2 ⟨v, rfl, ov, x2⟩; obtain ⟨A2, c2, rfl, s2⟩ := ov.top; have e2 := (ex1.alloc (.cells #[.slice A n c, .slice B m d] 67)).trans x2)
      | (go_at_call 53; refine (HO.out _ A2 c2 s2).mono ?_; rintro e w3 ⟨⟨A3, c3, rfl, s3⟩, x3⟩; have e3 := e2.trans x3))
    go_ret2
    exact ⟨SetR.pair HV.out ⟨A3, c3, rfl, s3⟩, e3⟩
  · have HV := Lib.hid (setOut_bad (s := ofS (a ++ b)) hz)
    have hb : (wrongSets [a, b] != 0) = true := by simpa using hz
    clear hz
    generalize wrongSets [a, b] = q at *
    go_enter Try.func67, Try.ntmps67
    go_wp2_with (go_at_call 125; refine HC.out.mono ?_; rintro e w1 ⟨rfl, x1⟩)
    go_ret2
    exact ⟨SetR.pair HV.out (SetR.no rfl rfl), e1.trans x1⟩

end Go.Proofs.Ytfdkbhbnldcbmaa
