/- Walks: whether a rule matches. Walk: whether a rule matches at a place. -/
import Derived.Test.YtfdkbhbnldcbmaaW3
import Derived.Test.YtfdkbhbnldcbmaaSpec
import Derived.StillTailTactics
namespace Go.Proofs.Ytfdkbhbnldcbmaa
open Go.RowKit
set_option linter.unusedVariables false

theorem Len_any (A : Option Addr) (n c : Nat) (w : World) : Calls Try.prog 186 #[.slice A n c] w fun e w' => e = .returned (.int .i64 n) ∧ w = w' := by
  go_enter Try.func186, Try.ntmps186
  go_wp2
  go_ret
  exact ⟨rfl, rfl⟩

theorem Rune_any (A : Option Addr) (n c : Nat) (l : List Int) (k : Nat) (x : Int) (w : World) (h : Runes w A n c l) (hx : l[k]? = some x) :
    Calls Try.prog 187 #[.slice A n c, .int .i64 k] w fun e w' => e = .returned (.int .i32 x) ∧ w = w' := by
  have hlt := lt_of_get hx
  rw [h.len] at hlt
  obtain ⟨b, off, rfl, _, hc, _⟩ := h.rune hx
  have hi : (k : Int) < (n : Int) := by omega
  clear hx h
  go_enter Try.func187, Try.ntmps187
  go_wp2
  go_ret
  exact ⟨rfl, rfl⟩

theorem method_len (A : Option Addr) (n c : Nat) (w : World) : (method 299 109 (.slice A n c) "Len").run Try.prog w = .ok (186, .slice A n c) w := by kernel_rfl
theorem method_rune (A : Option Addr) (n c : Nat) (w : World) : (method 299 109 (.slice A n c) "Rune").run Try.prog w = .ok (187, .slice A n c) w := by kernel_rfl

theorem zipHas_cons {s : List Sp} {r : List (List Sp)} {x : Int} {t : List Int} : zipHas (s :: r) (x :: t) = (has s x && zipHas r t) := rfl

set_option maxHeartbeats 800000 in
theorem all_any (A : Option Addr) (n c : Nat) (t : List Int) (at_ : Int) (B : Option Addr) (m d : Nat) (l : List (List Sp)) (w : World) (h : Runes w A n c t) (hl : Sets w B m d l) (hok : okSets l)
    (hmm : m ≤ 60000) (hnn : n ≤ 60000) :
    Calls Try.prog 135 #[.iface 109 (.slice A n c), .int .i64 at_, .slice B m d] w fun e w' => e = .returned (.bool (allAt t at_ l)) ∧ Ext w w' := by
  have hlen := Lib.hid h.len
  have hlen2 := Lib.hid hl.len
  have em := fun w => method_len A n c w
  have er := fun w => method_rune A n c w
  by_cases h0 : at_ < 0
  · have H := Lib.hid (allAt_neg (t := t) (l := l) h0)
    go_enter Try.func135, Try.ntmps135
    go_wp2
    go_ret
    rw [H.out]; exact ⟨rfl, Ext.refl _⟩
  have h0' : decide (at_ < 0) = false := by simpa using h0
  by_cases h1 : (n : Int) - (m : Int) < at_
  · have H := Lib.hid (allAt_far (t := t) (l := l) (a := at_) (by rw [hlen.out, hlen2.out]; exact h1))
    have h1' : decide ((n : Int) - (m : Int) < at_) = true := by simpa using h1
    go_enter Try.func135, Try.ntmps135
    go_wp2_with (go_at_call 186; refine (Len_any _ _ _ _).mono ?_; rintro e w' ⟨rfl, rfl⟩)
    go_ret
    rw [H.out]; exact ⟨rfl, Ext.refl _⟩
  have h1' : decide ((n : Int) - (m : Int) < at_) = false := by simpa using h1
  obtain ⟨a, rfl⟩ := Int.eq_ofNat_of_zero_le (by omega : 0 ≤ at_)
  have HA := Lib.hid (allAt_in (t := t) (l := l) (a := a) (by omega) (by rw [hlen.out, hlen2.out]; omega))
  have ham : a + m ≤ n := by omega
  clear h1
  go_enter Try.func135, Try.ntmps135
  go_wp2_with (go_at_call 186; refine (Len_any _ _ _ _).mono ?_; rintro e w' ⟨rfl, rfl⟩)
  go_loopw [22] (fun i wr => ∃ k : Nat, k ≤ m ∧ i = .int .i64 k ∧ zipHas l (t.drop a) = zipHas (l.drop k) (t.drop (a + k)) ∧ Ext w wr) (fun i _ => m - (intOf i).toNat)
  case atStart => exact ⟨0, by omega, rfl, rfl, Ext.refl _⟩
  case round =>
    obtain ⟨k, hk, rfl, hkk, hx⟩ := hrel
    have HK := Lib.hid hkk; clear hkk
    by_cases hlt : k < m
    · obtain ⟨S, hSS⟩ := hl.idx hlt
      obtain ⟨b, off, A', n', c', rfl, ⟨_, hne⟩, hc, hsl⟩ := (hl.ext hx).sl hSS
      obtain ⟨x, hxx⟩ := h.idx (k := a + k) (by omega)
      have HR := Lib.hid (Rune_any A n c t (a + k) x wr (h.ext hx) hxx)
      have HH := Lib.hid (setsHas_any A' n' c' S x wr hsl (hok S (List.mem_of_getElem? hSS)))
      have HZ := Lib.hid (show zipHas (l.drop k) (t.drop (a + k)) = (has S x && zipHas (l.drop (k + 1)) (t.drop (a + k + 1))) by rw [drop_cons hSS, drop_cons hxx]; rfl)
      clear hSS hxx
      have hak : (a : Int) + (k : Int) = ((a + k : Nat) : Int) := by omega
      have HAK := Lib.hid hak; clear hak
      cases hh : has S x
      · have H2 := Lib.hid hh; clear hh
        go_wp2_with (first | (go_at_call 187; rw [HAK.out]; refine HR.out.mono ?_; rintro e w' ⟨rfl, rfl⟩) | (go_at_call 51; refine HH.out.mono ?_; rintro e w1 ⟨rfl, hx1⟩; rw [H2.out]))
        go_ret
        rw [HA.out, Int.toNat_natCast, HK.out, HZ.out, H2.out, Bool.false_and]
        exact ⟨rfl, hx.trans hx1⟩
      · have H2 := Lib.hid hh; clear hh
        go_wp2_with (first | (go_at_call 187; rw [HAK.out]; refine HR.out.mono ?_; rintro e w' ⟨rfl, rfl⟩) | (go_at_call 51; refine HH.out.mono ?_; rintro e w1 ⟨rfl, hx1⟩; rw [H2.out]))
        go_roundw
        case rel => exact ⟨k + 1, by omega, by go_num, by rw [HK.out, HZ.out, H2.out, Bool.true_and]; rfl, hx.trans hx1⟩
        case measure => simp [intOf]; omega
    · go_wp2
      go_ret
      rw [HA.out, Int.toNat_natCast, HK.out, drop_end hlen2.out hlt]
      exact ⟨rfl, hx⟩

end Go.Proofs.Ytfdkbhbnldcbmaa

namespace Go.Proofs.Ytfdkbhbnldcbmaa
open Go.RowKit
set_option linter.unusedVariables false
set_option linter.unusedSimpArgs false

theorem quiet_left {P : Program} {f : FuncId} {args : Array Value} {w : World} {n : Nat} {v : Value}
    (h : Calls P f args (w.drewN n) fun e w' => e = .returned v ∧ w.drewN n = w') : Calls P f args (w.drewN n) fun e w'' => e = .returned v ∧ ∃ m, w'' = w.drewN m :=
  h.mono fun _ _ ⟨he, hm⟩ => ⟨he, n, hm.symm⟩

/-- a rule's seven cells in memory -/
structure RuleAt (w : World) (b off : Nat) (s f : Bool) (A1 : Option Addr) (n1 c1 : Nat) (A2 : Option Addr) (n2 c2 : Nat) (A3 : Option Addr) (n3 c3 : Nat) (A4 : Option Addr) (n4 c4 : Nat) (q : Int) : Prop where
  h0 : w.cell? ⟨b, off, none⟩ = some (.bool s)
  h1 : w.cell? ⟨b, off + 1, none⟩ = some (.bool f)
  h2 : w.cell? ⟨b, off + 2, none⟩ = some (.slice A1 n1 c1)
  h3 : w.cell? ⟨b, off + 3, none⟩ = some (.slice A2 n2 c2)
  h4 : w.cell? ⟨b, off + 4, none⟩ = some (.slice A3 n3 c3)
  h5 : w.cell? ⟨b, off + 5, none⟩ = some (.slice A4 n4 c4)
  h6 : w.cell? ⟨b, off + 6, none⟩ = some (.int .i64 q)

section
variable {w w' : World} {b off : Nat} {s f : Bool} {A1 : Option Addr} {n1 c1 : Nat} {A2 : Option Addr} {n2 c2 : Nat} {A3 : Option Addr} {n3 c3 : Nat} {A4 : Option Addr} {n4 c4 : Nat} {q : Int} {r : Rule}
theorem RuleAt.ext (h : RuleAt w b off s f A1 n1 c1 A2 n2 c2 A3 n3 c3 A4 n4 c4 q) (e : Ext w w') : RuleAt w' b off s f A1 n1 c1 A2 n2 c2 A3 n3 c3 A4 n4 c4 q :=
  ⟨e.cell h.h0, e.cell h.h1, e.cell h.h2, e.cell h.h3, e.cell h.h4, e.cell h.h5, e.cell h.h6⟩
theorem RuleAt.new (w : World) (t : TypeId) : RuleAt (w.alloc (.cells #[.bool s, .bool f, .slice A1 n1 c1, .slice A2 n2 c2, .slice A3 n3 c3, .slice A4 n4 c4, .int .i64 q] t)) w.heap.size 0 s f A1 n1 c1 A2 n2 c2 A3 n3 c3 A4 n4 c4 q :=
  ⟨cell_new _ _ _ _ _ rfl, cell_new _ _ _ _ _ rfl, cell_new _ _ _ _ _ rfl, cell_new _ _ _ _ _ rfl, cell_new _ _ _ _ _ rfl, cell_new _ _ _ _ _ rfl, cell_new _ _ _ _ _ rfl⟩

/-- right rules: what a matcher leans on -/
structure OkRule (r : Rule) : Prop where
  b : okSets r.before
  s : okSets r.source
  a : okSets r.after
  lb : r.before.length ≤ 20
  ls : r.source.length ≤ 20
  la : r.after.length ≤ 20
  s0 : 0 < r.source.length
  lt : r.target.length ≤ 20
  tr : r.target.all right = true
  c0 : 0 ≤ r.cursor
  c1 : r.cursor ≤ r.target.length
end

section
variable (s f : Bool) (A1 : Option Addr) (n1 c1 : Nat) (A2 : Option Addr) (n2 c2 : Nat) (A3 : Option Addr) (n3 c3 : Nat) (A4 : Option Addr) (n4 c4 : Nat) (q : Int) (r : Rule) (w : World)

set_option maxRecDepth 100000 in
set_option maxHeartbeats 2000000 in
theorem Here_any (A : Option Addr) (n c : Nat) (t : List Int) (b off a : Nat) (h : Runes w A n c t) (hn : n ≤ 4000) (ha : a ≤ n)
    (hv : RuleV w s f A1 n1 c1 A2 n2 c2 A3 n3 c3 A4 n4 c4 q r) (hr : RuleAt w b off s f A1 n1 c1 A2 n2 c2 A3 n3 c3 A4 n4 c4 q) (hok : OkRule r) :
    Calls Try.prog 88 #[.pointer (some ⟨b, off, none⟩), .iface 109 (.slice A n c), .int .i64 a] w fun e w' => e = .returned (.bool (here r t a)) ∧ Ext w w' := by
  have hl1 := hok.lb; have hl2 := hok.ls; have hl3 := hok.la
  rw [hv.before.len] at hl1
  rw [hv.source.len] at hl2
  rw [hv.after.len] at hl3
  have HH : Hid (here r t a = (allAt t a r.source && allAt t ((a : Int) - n1) r.before && allAt t ((a : Int) + n2) r.after && !(s && decide ((a : Int) ≠ n1)) && !(f && decide ((a : Int) + n2 + n3 ≠ n)))) := by
    show _ = _
    unfold here
    rw [hv.before.len, hv.source.len, hv.after.len, hv.start, hv.fin, h.len]
  have C1 := Lib.hid (fun W (e : Ext w W) => all_any A n c t (a : Int) A2 n2 c2 r.source W (h.ext e) (hv.source.ext e) hok.s (by omega) (by omega))
  have C2 := Lib.hid (fun W (e : Ext w W) => all_any A n c t ((a : Int) - n1) A1 n1 c1 r.before W (h.ext e) (hv.before.ext e) hok.b (by omega) (by omega))
  have C3 := Lib.hid (fun W (e : Ext w W) => all_any A n c t ((a : Int) + n2) A3 n3 c3 r.after W (h.ext e) (hv.after.ext e) hok.a (by omega) (by omega))
  clear hv h hok
  generalize allAt t a r.source = x1 at *
  generalize allAt t ((a : Int) - n1) r.before = x2 at *
  generalize allAt t ((a : Int) + n2) r.after = x3 at *
  have em := fun w => method_len A n c w
  obtain ⟨r0, r1, r2, r3, r4, _, _⟩ := hr
  go_enter Try.func88, Try.ntmps88
  go_wp2_with fail
  refine (C1.out _ (Ext.refl _)).mono ?_
  rintro e w1 ⟨rfl, hx1⟩
  have r01 := hx1.cell r0; have r11 := hx1.cell r1; have r21 := hx1.cell r2; have r31 := hx1.cell r3; have r41 := hx1.cell r4
  cases x1
  · go_wp2
    go_ret
    rw [HH.out]; exact ⟨by simp, hx1⟩
  go_wp2_with fail
  go_still_tail 12, (by kernel_rfl)
  change wpList _ _ _ _ _ w1.drew
  go_wp2_with fail
  have hw : IntKind.i64.wrap ((a : Int) - n1) = (a : Int) - n1 := IntWalk.i64_in _ (by omega)
  try rw [hw]
  clear hw
  refine (C2.out _ hx1.drew).mono ?_
  rintro e w2 ⟨rfl, hx2⟩
  have hx2' := hx1.drew.trans hx2
  have r02 := hx2'.cell r0; have r12 := hx2'.cell r1; have r22 := hx2'.cell r2; have r32 := hx2'.cell r3; have r42 := hx2'.cell r4
  cases x2
  · go_wp2
    go_ret
    rw [HH.out]; exact ⟨by simp, hx2'⟩
  go_wp2_with fail
  refine (C3.out _ hx2').mono ?_
  rintro e w3 ⟨rfl, hx3⟩
  have hx3' := hx2'.trans hx3
  have r03 := hx3'.cell r0; have r13 := hx3'.cell r1; have r23 := hx3'.cell r2; have r33 := hx3'.cell r3; have r43 := hx3'.cell r4
  cases x3
  · go_wp2
    go_ret
    rw [HH.out]; exact ⟨by simp, hx3'⟩
  have HH2 : Hid (here r t a = (!(s && decide ((a : Int) ≠ n1)) && !(f && decide ((a : Int) + n2 + n3 ≠ n)))) := by
    show _ = _
    rw [HH.out]; simp
  clear HH hx1 hx2 hx3 C1 C2 C3
  by_cases t1 : s = true ∧ (a : Int) ≠ n1
  · obtain ⟨rfl, t1⟩ := t1
    have t1' : ((a : Int) != (n1 : Int)) = true := by simpa using t1
    go_wp2
    go_ret
    rw [HH2.out]; exact ⟨by simp [t1], hx3'⟩
  have HH3 : Hid (here r t a = !(f && decide ((a : Int) + n2 + n3 ≠ n))) := by
    show _ = _
    rw [HH2.out]
    have : (s && decide ((a : Int) ≠ n1)) = false := by
      rw [Bool.eq_false_iff]; intro hh; simp only [Bool.and_eq_true, decide_eq_true_eq] at hh; exact t1 hh
    rw [this]; simp
  clear HH2
  have t1' : s = true → ((a : Int) != (n1 : Int)) = false := fun hs => by
    rw [bne_eq_false_iff_eq]
    exact Decidable.byContradiction fun hh => t1 ⟨hs, hh⟩
  clear t1
  cases f
  · cases s
    · go_wp2
      go_quiet (fail)
      go_wp2
      go_ret
      rw [HH3.out]; exact ⟨by simp, hx3'.drewN _⟩
    · have t1'' := t1' rfl
      clear t1'
      go_wp2
      go_quiet (fail)
      go_wp2
      go_ret
      rw [HH3.out]; exact ⟨by simp, hx3'.drewN _⟩
  · have hw1 : IntKind.i64.wrap ((a : Int) + n2 + n3) = (a : Int) + n2 + n3 := IntWalk.i64_in _ (by omega)
    by_cases t2 : (a : Int) + n2 + n3 = n
    · have t2' : ((a : Int) + n2 + n3 != (n : Int)) = false := by rw [bne_eq_false_iff_eq]; exact t2
      have HT := Lib.hid t2; clear t2
      cases s
      · go_wp2
        go_quiet ((go_at_call 186; exact quiet_left (Len_any _ _ _ _)))
        clear hw1
        go_wp2
        go_ret
        rw [HH3.out]; exact ⟨by simp [HT.out], hx3'.drewN _⟩
      · have t1'' := t1' rfl
        clear t1'
        go_wp2
        go_quiet ((go_at_call 186; exact quiet_left (Len_any _ _ _ _)))
        clear hw1
        go_wp2
        go_ret
        rw [HH3.out]; exact ⟨by simp [HT.out], hx3'.drewN _⟩
    · have t2' : ((a : Int) + n2 + n3 != (n : Int)) = true := by rw [bne_iff_ne]; exact t2
      have HT := Lib.hid t2; clear t2
      cases s
      · go_wp2
        go_quiet ((go_at_call 186; exact quiet_left (Len_any _ _ _ _)))
        clear hw1
        go_wp2
        go_ret
        rw [HH3.out]; exact ⟨by simp [HT.out], hx3'.drewN _⟩
      · have t1'' := t1' rfl
        clear t1'
        go_wp2
        go_quiet ((go_at_call 186; exact quiet_left (Len_any _ _ _ _)))
        clear hw1
        go_wp2
        go_ret
        rw [HH3.out]; exact ⟨by simp [HT.out], hx3'.drewN _⟩
end

end Go.Proofs.Ytfdkbhbnldcbmaa
