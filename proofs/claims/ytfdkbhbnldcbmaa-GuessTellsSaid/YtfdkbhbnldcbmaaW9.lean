/- Walk: Matches. Walk: Put. -/
import Derived.Test.YtfdkbhbnldcbmaaRule
import Derived.Test.YtfdkbhbnldcbmaaW4
import Derived.Test.YtfdkbhbnldcbmaaLibR
namespace Go.Proofs.Ytfdkbhbnldcbmaa
open Go.RowKit
set_option linter.unusedVariables false
set_option linter.unusedSimpArgs false

section
variable (s f : Bool) (A1 : Option Addr) (n1 c1 : Nat) (A2 : Option Addr) (n2 c2 : Nat) (A3 : Option Addr) (n3 c3 : Nat) (A4 : Option Addr) (n4 c4 : Nat) (q : Int) (r : Rule) (w : World)

set_option maxRecDepth 100000 in
set_option maxHeartbeats 1000000 in
theorem Matches_any (A : Option Addr) (n c : Nat) (t : List Int) (at_ : Int) (h : Runes w A n c t) (hv : RuleV w s f A1 n1 c1 A2 n2 c2 A3 n3 c3 A4 n4 c4 q r) :
    Calls Try.prog 26 #[.agg #[.bool s, .bool f, .slice A1 n1 c1, .slice A2 n2 c2, .slice A3 n3 c3, .slice A4 n4 c4, .int .i64 q], .slice A n c, .int .i64 at_] w
      fun e w' => e = .returned (.tuple #[.bool (matchesOk r t at_), .int .i64 (matchesErr r t at_)]) ∧ Ext w w' := by
  have e1 := (Ext.refl w).alloc (.cells #[.bool s, .bool f, .slice A1 n1 c1, .slice A2 n2 c2, .slice A3 n3 c3, .slice A4 n4 c4, .int .i64 q] 25)
  have r1 := RuleAt.new (s := s) (f := f) (A1 := A1) (n1 := n1) (c1 := c1) (A2 := A2) (n2 := n2) (c2 := c2) (A3 := A3) (n3 := n3) (c3 := c3) (A4 := A4) (n4 := n4) (c4 := c4) (q := q) w 25
  have HW := Lib.hid (Wrong_any s f A1 n1 c1 A2 n2 c2 A3 n3 c3 A4 n4 c4 q r _ (hv.ext (e1.agree top)))
  have hlen := Lib.hid h.len
  by_cases t1 : wrongRule r = 0
  · have ok := Lib.hid (ok_of t1)
    have T1 := Lib.hid t1; clear t1
    by_cases t2 : wrongText t = 0
    · have tx := text_of t2
      have T2 := Lib.hid t2; clear t2
      by_cases t3 : at_ < 0
      · have HE : Hid (matchesErr r t at_ = 3) := by show _ = _; unfold matchesErr; rw [if_neg (by simp [T1.out]), if_neg (by simp [T2.out]), if_pos (Or.inl t3)]
        go_enter Try.func26, Try.ntmps26
        go_wp2_with (first
          | (go_at_call 23; refine HW.out.mono ?_; rintro e w1 ⟨rfl, ex1⟩; rw [T1.out])
          | (go_at_call 24; refine (Text_any A n c t _ (h.ext (e1.trans ex1))).mono ?_; rintro e w2 ⟨rfl, ex2⟩; rw [T2.out]))
        go_ret2
        unfold matchesOk
        rw [HE.out]
        exact ⟨rfl, (e1.trans ex1).trans ex2⟩
      · by_cases t4 : (n : Int) < at_
        · have HE : Hid (matchesErr r t at_ = 3) := by show _ = _; unfold matchesErr; rw [if_neg (by simp [T1.out]), if_neg (by simp [T2.out]), if_pos (Or.inr (by rw [hlen.out]; exact t4))]
          go_enter Try.func26, Try.ntmps26
          go_wp2_with (first
            | (go_at_call 23; refine HW.out.mono ?_; rintro e w1 ⟨rfl, ex1⟩; rw [T1.out])
            | (go_at_call 24; refine (Text_any A n c t _ (h.ext (e1.trans ex1))).mono ?_; rintro e w2 ⟨rfl, ex2⟩; rw [T2.out]))
          go_ret2
          unfold matchesOk
          rw [HE.out]
          exact ⟨rfl, (e1.trans ex1).trans ex2⟩
        · obtain ⟨a, rfl⟩ := Int.eq_ofNat_of_zero_le (by omega : 0 ≤ at_)
          have HE : Hid (matchesErr r t a = 0) := by show _ = _; unfold matchesErr; rw [if_neg (by simp [T1.out]), if_neg (by simp [T2.out]), if_neg (by rw [hlen.out]; omega)]
          have hn : n ≤ 4000 := by rw [← hlen.out]; exact tx.1
          clear tx
          go_enter Try.func26, Try.ntmps26
          go_wp2_with (first
            | (go_at_call 23; refine HW.out.mono ?_; rintro e w1 ⟨rfl, ex1⟩; rw [T1.out])
            | (go_at_call 24; refine (Text_any A n c t _ (h.ext (e1.trans ex1))).mono ?_; rintro e w2 ⟨rfl, ex2⟩; rw [T2.out])
            | (go_at_call 88; refine (Here_any s f A1 n1 c1 A2 n2 c2 A3 n3 c3 A4 n4 c4 q r _ A n c t w.heap.size 0 a (h.ext ((e1.trans ex1).trans ex2)) hn (by omega) (hv.ext (((e1.trans ex1).trans ex2).agree top)) (r1.ext (ex1.trans ex2)) ok.out).mono ?_; rintro e w3 ⟨rfl, ex3⟩))
          go_ret2
          unfold matchesOk
          rw [HE.out]
          exact ⟨by simp, ((e1.trans ex1).trans ex2).trans ex3⟩
    · have HE : Hid (matchesErr r t at_ = wrongText t) := by show _ = _; unfold matchesErr; rw [if_neg (by simp [T1.out]), if_pos t2]
      have t2' : (wrongText t != 0) = true := by simpa using t2
      go_enter Try.func26, Try.ntmps26
      go_wp2_with (first
        | (go_at_call 23; refine HW.out.mono ?_; rintro e w1 ⟨rfl, ex1⟩; rw [T1.out])
        | (go_at_call 24; refine (Text_any A n c t _ (h.ext (e1.trans ex1))).mono ?_; rintro e w2 ⟨rfl, ex2⟩))
      go_ret2
      unfold matchesOk
      rw [HE.out]
      exact ⟨by simp [t2], (e1.trans ex1).trans ex2⟩
  · have HE : Hid (matchesErr r t at_ = wrongRule r) := by show _ = _; unfold matchesErr; rw [if_pos t1]
    have t1' : (wrongRule r != 0) = true := by simpa using t1
    go_enter Try.func26, Try.ntmps26
    go_wp2_with (go_at_call 23; refine HW.out.mono ?_; rintro e w1 ⟨rfl, ex1⟩)
    go_ret2
    unfold matchesOk
    rw [HE.out]
    exact ⟨by simp [t1], e1.trans ex1⟩
end

end Go.Proofs.Ytfdkbhbnldcbmaa

namespace Go.Proofs.Ytfdkbhbnldcbmaa
open Go.RowKit
set_option linter.unusedVariables false
set_option linter.unusedSimpArgs false

theorem mErr_zero {r : Rule} {t : List Int} {at_ : Int} (h : matchesErr r t at_ = 0) : wrongRule r = 0 ∧ wrongText t = 0 ∧ 0 ≤ at_ ∧ at_ ≤ t.length := by
  unfold matchesErr at h
  by_cases h1 : wrongRule r = 0
  · rw [if_neg (by simp [h1])] at h
    by_cases h2 : wrongText t = 0
    · rw [if_neg (by simp [h2])] at h
      by_cases h3 : at_ < 0 ∨ (t.length : Int) < at_
      · rw [if_pos h3] at h; simp at h
      · exact ⟨h1, h2, by omega, by omega⟩
    · rw [if_pos h2] at h; exact absurd h h2
  · rw [if_pos h1] at h; exact absurd h h1

theorem here_room {r : Rule} {t : List Int} {a : Nat} (h : here r t a = true) : a + r.source.length ≤ t.length := by
  unfold here at h
  simp only [Bool.and_eq_true] at h
  have := h.1.1.1.1
  unfold allAt at this
  simp only [Bool.and_eq_true, decide_eq_true_eq] at this
  omega

/-- what Put hands back -/
structure PutR (B : Nat) (r : Rule) (t : List Int) (at_ : Int) (w' : World) (v : Value) : Prop where
  err : matchesOk r t at_ = false → v = .tuple #[.slice none 0 0, .int .i64 0, .bool false, .int .i64 (matchesErr r t at_)]
  big : matchesOk r t at_ = true → 4000 < (putAt r t at_.toNat).length → v = .tuple #[.slice none 0 0, .int .i64 0, .bool false, .int .i64 4]
  fine : matchesOk r t at_ = true → (putAt r t at_.toNat).length ≤ 4000 → ∃ x, v = .tuple #[x, .int .i64 (at_ + r.cursor), .bool true, .int .i64 0] ∧ OwnR rRune 21 1 B w' x (putAt r t at_.toNat)

section
variable (s f : Bool) (A1 : Option Addr) (n1 c1 : Nat) (A2 : Option Addr) (n2 c2 : Nat) (A3 : Option Addr) (n3 c3 : Nat) (A4 : Option Addr) (n4 c4 : Nat) (q : Int) (r : Rule) (w : World)

theorem pieces_new {w' : World} (X Y Z : Option Addr) (nx cx ny cy nz cz : Nat) (x y z : List Int) (t : TypeId) (hx : Runes w' X nx cx x) (hy : Runes w' Y ny cy y) (hz : Runes w' Z nz cz z) :
    Texts (w'.alloc (.cells #[.slice X nx cx, .slice Y ny cy, .slice Z nz cz] t)) (some ⟨w'.heap.size, 0, none⟩) 3 3 [x, y, z] := by
  have e := (Ext.refl w').alloc (.cells #[.slice X nx cx, .slice Y ny cy, .slice Z nz cz] t)
  refine SlR.fresh rfl (by unfold maxLen; omega) fun k u huu => ?_
  match k, huu with
  | 0, huu => cases huu; exact ⟨[.slice X nx cx], rfl, ⟨X, nx, cx, rfl, hx.ext e⟩, fun j v hv => by match j, hv with | 0, hv => simpa using hv⟩
  | 1, huu => cases huu; exact ⟨[.slice Y ny cy], rfl, ⟨Y, ny, cy, rfl, hy.ext e⟩, fun j v hv => by match j, hv with | 0, hv => simpa using hv⟩
  | 2, huu => cases huu; exact ⟨[.slice Z nz cz], rfl, ⟨Z, nz, cz, rfl, hz.ext e⟩, fun j v hv => by match j, hv with | 0, hv => simpa using hv⟩

set_option maxRecDepth 100000 in
set_option maxHeartbeats 1000000 in
theorem Put_any (A : Option Addr) (n c : Nat) (t : List Int) (at_ : Int) (h : Runes w A n c t) (hv : RuleV w s f A1 n1 c1 A2 n2 c2 A3 n3 c3 A4 n4 c4 q r) :
    Calls Try.prog 27 #[.agg #[.bool s, .bool f, .slice A1 n1 c1, .slice A2 n2 c2, .slice A3 n3 c3, .slice A4 n4 c4, .int .i64 q], .slice A n c, .int .i64 at_] w
      fun e w' => ∃ v, e = .returned v ∧ PutR w.heap.size r t at_ w' v ∧ Ext w w' := by
  have e1 := (Ext.refl w).alloc (.cells #[.bool s, .bool f, .slice A1 n1 c1, .slice A2 n2 c2, .slice A3 n3 c3, .slice A4 n4 c4, .int .i64 q] 25)
  have r1 := RuleAt.new (s := s) (f := f) (A1 := A1) (n1 := n1) (c1 := c1) (A2 := A2) (n2 := n2) (c2 := c2) (A3 := A3) (n3 := n3) (c3 := c3) (A4 := A4) (n4 := n4) (c4 := c4) (q := q) w 25
  have HM := Lib.hid (Matches_any s f A1 n1 c1 A2 n2 c2 A3 n3 c3 A4 n4 c4 q r _ A n c t at_ (h.ext e1) (hv.ext (e1.agree top)))
  have hlen := Lib.hid h.len
  have hcap := h.cap
  cases tm : matchesOk r t at_
  · have TM := Lib.hid tm; clear tm
    have fin : ∀ w', PutR w.heap.size r t at_ w' (.tuple #[.slice none 0 0, .int .i64 0, .bool false, .int .i64 (matchesErr r t at_)]) := fun w' =>
      ⟨fun _ => rfl, (fun hh _ => by rw [TM.out] at hh; cases hh), (fun hh _ => by rw [TM.out] at hh; cases hh)⟩
    have FIN := Lib.hid fin; clear fin
    by_cases te : matchesErr r t at_ = 0
    · have TE := Lib.hid te; clear te
      go_enter Try.func27, Try.ntmps27
      go_wp2_with (go_at_call 26; refine HM.out.mono ?_; rintro e w1 ⟨rfl, ex1⟩; rw [TM.out, TE.out])
      refine bodyPost_ret (results_tmp4 rfl _ _ _) rfl ?_
      have := FIN.out w1
      rw [TE.out] at this
      exact ⟨_, rfl, this, e1.trans ex1⟩
    · have te' : (matchesErr r t at_ != 0) = true := by simpa using te
      go_enter Try.func27, Try.ntmps27
      go_wp2_with (go_at_call 26; refine HM.out.mono ?_; rintro e w1 ⟨rfl, ex1⟩; rw [TM.out])
      refine bodyPost_ret (results_tmp4 rfl _ _ _) rfl ?_
      exact ⟨_, rfl, FIN.out w1, e1.trans ex1⟩
  · have te : matchesErr r t at_ = 0 := by unfold matchesOk at tm; simp only [Bool.and_eq_true, decide_eq_true_eq] at tm; exact tm.1
    obtain ⟨hr0, ht0, h0, h1⟩ := mErr_zero te
    obtain ⟨a, rfl⟩ := Int.eq_ofNat_of_zero_le h0
    have hh : here r t a = true := by unfold matchesOk at tm; simp only [Bool.and_eq_true] at tm; exact tm.2
    have hroom := here_room hh
    have hok := ok_of hr0
    have htx := (text_of ht0).1
    have hc0 := hok.c0; have hc1 := hok.c1; have hlt := hok.lt
    have hsl := hv.source.len
    have htl := hv.target.len
    have hcq := hv.cursor
    rw [h.len] at htx hroom
    rw [hsl] at hroom
    rw [htl] at hc1 hlt
    rw [hcq] at hc0 hc1
    have hplen : (putAt r t a).length = a + n4 + (n - (a + n2)) := by
      unfold putAt
      simp only [List.length_append, List.length_take, List.length_drop, hlen.out, hsl, htl]
      omega
    have HP := Lib.hid hplen
    have HSL := Lib.hid hsl
    have HTL := Lib.hid htl
    have HCQ := Lib.hid hcq
    have TE := Lib.hid te
    have TM := Lib.hid tm
    have hs1 := fun W => run_cut_h T_rune A n c (a : Int) a rfl (by omega) W
    have hs2 := fun W => run_cut_l T_rune A n c ((a : Int) + (n2 : Int)) (a + n2) (by omega) (by omega) W
    clear te tm hplen hok hh hr0 ht0 hsl htl hcq
    have hw : IntKind.i64.wrap ((a : Int) + n2) = (a : Int) + n2 := IntWalk.i64_in _ (by omega)
    have HW := Lib.hid hw; clear hw
    go_enter Try.func27, Try.ntmps27
    go_wp2_with (go_at_call 26; refine HM.out.mono ?_; rintro e w1 ⟨rfl, ex1⟩; rw [TM.out, TE.out]; have k3 := ex1.cell r1.h3; have k5 := ex1.cell r1.h5; have k6 := ex1.cell r1.h6; have ex := e1.trans ex1)
    have hw := HW.out
    go_still_tail 12, (by kernel_rfl)
    change wpList _ _ _ _ _ w1.drew
    clear hw
    have hT := pieces_new A A4 (cutA A c (a + n2) 1) a c n4 c4 (n - (a + n2)) (c - (a + n2)) (t.take a) r.target (t.drop (a + n2)) 23 ((h.ext ex.drew).take (by omega)) (hv.target.ext ex.drew) ((h.ext ex.drew).drop (by omega))
    have hfl : [t.take a, r.target, t.drop (a + n2)].flatten = putAt r t a := by unfold putAt; rw [HSL.out]; simp
    have HC := Lib.hid (Concat_rune one_rune (keep_rune bot) _ 3 3 _ _ hT (by rw [hfl, HP.out]; omega) (fun _ _ h => h))
    rw [hfl] at HC
    have HC' := HC
    clear HC hT hfl
    by_cases t5 : 4000 < (putAt r t a).length
    · have T5 := Lib.hid t5
      go_wp2_with (go_at_call 89; refine HC'.out.mono ?_; rintro e w2 ⟨v, rfl, ov, ex2⟩; obtain ⟨AX, cx, rfl, _, _⟩ := ov.form)
      refine bodyPost_ret (results_tmp4 rfl _ _ _) rfl ?_
      exact ⟨_, rfl, ⟨(fun hh => by rw [TM.out] at hh; cases hh), fun _ _ => rfl, fun _ hh => absurd T5.out (by simp only [Int.toNat_natCast] at hh; omega)⟩, (ex.drew.alloc _).trans ex2⟩
    · have T5 := Lib.hid t5
      go_wp2_with (go_at_call 89; refine HC'.out.mono ?_; rintro e w2 ⟨v, rfl, ov, ex2⟩; obtain ⟨AX, cx, rfl, _, _⟩ := ov.form; have k6' := ex2.cell (((Ext.refl w1.drew).alloc (.cells #[.slice A a c, .slice A4 n4 c4, .slice (cutA A c (a + n2) 1) (n - (a + n2)) (c - (a + n2))] 23)).cell k6))
      have hw2 : IntKind.i64.wrap ((a : Int) + q) = (a : Int) + q := IntWalk.i64_in _ (by omega)
      go_quiet (fail)
      clear hw2
      go_wp2
      refine bodyPost_ret (results_tmp4 rfl _ _ _) rfl ?_
      exact ⟨_, rfl, ⟨(fun hh => by rw [TM.out] at hh; cases hh), fun _ hh => absurd hh T5.out, fun _ _ => ⟨_, by rw [HCQ.out]; rfl, (ov.mono (by have := ex.size; simp; omega)).drewN (keep_rune bot).x _⟩⟩, ((ex.drew.alloc _).trans ex2).drewN _⟩
end

end Go.Proofs.Ytfdkbhbnldcbmaa
