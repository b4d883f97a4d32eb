/- Walks: whether a set's runes are all in another one; list by list. -/
import Derived.Test.YtfdkbhbnldcbmaaW3
import Derived.Test.YtfdkbhbnldcbmaaPl9
import Derived.Deep.Cut
import Derived.Deep.CutRange
namespace Go.Proofs.Ytfdkbhbnldcbmaa
open Go.RowKit
set_option linter.unusedVariables false
set_option linter.unusedSimpArgs false

/-- of a right set one span at most has a rune -/
theorem good_one {l : List Sp} (h : Good l) {i j : Nat} {x y : Sp} {r : Int} (hx : l[i]? = some x) (hy : l[j]? = some y) (h1 : x.lo ≤ r ∧ r ≤ x.hi) (h2 : y.lo ≤ r ∧ r ≤ y.hi) : x = y := by
  rcases Nat.lt_trichotomy i j with hij | rfl | hij
  · have := pw_get h.pw hij hx hy; omega
  · rw [hx] at hy; exact Option.some.inj hy
  · have := pw_get h.pw hij hy hx; omega

theorem sub_found {l : List Sp} (h : Good l) {x : Sp} (hx : x.lo ≤ x.hi) {i : Nat} (hf : Found (fun j => decide (x.lo ≤ (l.getD j default).hi)) l.length i) :
    (l.any fun y => subSp x y) = (decide (i < l.length) && decide ((l.getD i default).lo ≤ x.lo) && decide (x.hi ≤ (l.getD i default).hi)) := by
  have hh := has_found h hf
  rw [Bool.eq_iff_iff]
  simp only [List.any_eq_true, Bool.and_eq_true, decide_eq_true_eq, subSp]
  constructor
  · rintro ⟨y, hy, h1, h2⟩
    have : has l x.lo = true := has_iff.2 ⟨y, hy, h1, by omega⟩
    rw [hh] at this
    simp only [Bool.and_eq_true, decide_eq_true_eq] at this
    obtain ⟨hi, h3⟩ := this
    obtain ⟨z, hz⟩ := get_lt hi
    obtain ⟨j, hj⟩ := List.getElem?_of_mem hy
    have h4 := hf.2.2 hi
    rw [getD_of hz] at h3 ⊢
    simp only [getD_of hz, decide_eq_true_eq] at h4
    have e := good_one h hz hj (r := x.lo) ⟨h3, h4⟩ ⟨h1, by omega⟩
    subst e
    exact ⟨⟨hi, h3⟩, h2⟩
  · rintro ⟨⟨hi, h3⟩, h4⟩
    obtain ⟨z, hz⟩ := get_lt hi
    rw [getD_of hz] at h3 h4
    exact ⟨z, List.mem_of_getElem? hz, h3, h4⟩

/-- 'b[i].High >= x.Low', b and x captured -/
theorem subAt_any (B1 B2 : Nat) (A : Option Addr) (n c : Nat) (l : List Sp) (x : Sp) (i : Nat) (w : World) (h : Spans w A n c l) (hi : i < n)
    (h0 : w.cell? ⟨B1, 0, none⟩ = some (.slice A n c)) (h1 : w.cell? ⟨B2, 0, none⟩ = some (.int .i32 x.lo)) :
    Calls Try.prog 126 #[.int .i64 i, .pointer (some ⟨B1, 0, none⟩), .pointer (some ⟨B2, 0, none⟩)] w
      fun e w' => e = .returned (.bool (decide (x.lo ≤ (l.getD i default).hi))) ∧ Ext w w' := by
  obtain ⟨y, hyy⟩ := h.idx hi
  have hm := h.max; unfold maxLen at hm
  have hcap := h.cap
  obtain ⟨b, off, rfl, ⟨_, hne⟩, hc1, hc2, _⟩ := h.span hyy
  have HE := Lib.hid (getD_of hyy); clear hyy
  have hi' : (i : Int) < (n : Int) := by omega
  generalize x.lo = r at *
  go_enter Try.func126, Try.ntmps126
  go_wp2
  go_quiet (fail)
  go_wp2
  go_ret
  rw [HE.out]
  exact ⟨rfl, (Ext.refl _).drewN _⟩

theorem subSet_nil (b : List Sp) : subSet [] b = true := rfl
theorem subSet_cons (x : Sp) (a b : List Sp) : subSet (x :: a) b = ((b.any fun y => subSp x y) && subSet a b) := rfl

set_option maxRecDepth 100000 in
set_option maxHeartbeats 1600000 in
theorem Sub_any (A : Option Addr) (n c : Nat) (a : List Sp) (B : Option Addr) (m d : Nat) (b : List Sp) (w : World) (hA : Spans w A n c a) (hB : Spans w B m d b) (ga : wrongSet a = 0) (gb : wrongSet b = 0) :
    Calls Try.prog 63 #[.slice A n c, .slice B m d] w fun e w' => e = .returned (.bool (subSet a b)) ∧ Ext w w' := by
  have GA := good_of ga
  have GB := good_of gb
  have hn : n ≤ 200 := by rw [← hA.len]; exact GA.len
  have hm : m ≤ 200 := by rw [← hB.len]; exact GB.len
  have hcA := hA.cap; have hcB := hB.cap
  have hlA := Lib.hid hA.len; have hlB := Lib.hid hB.len
  have hmf : ∀ (fn : Fn) (first cap : Array Value) (w : World), (Instr.makeFunc fn first cap).run Try.prog w = .ok (.func fn first cap) w := fun _ _ _ _ => rfl
  have eg : ∀ args w, (callFunc 126 args).run Try.prog w = .ok (.enter 126 args) w := enters Try.func126 (by kernel_rfl) rfl
  have e1 := (Ext.refl w).alloc (.cells #[.slice B m d] 67)
  have k0 : (w.alloc (.cells #[.slice B m d] 67)).cell? ⟨w.heap.size, 0, none⟩ = some (.slice B m d) := by simp
  have hs0 : w.heap.size < (w.alloc (.cells #[.slice B m d] 67)).heap.size := by simp
  go_enter Try.func63, Try.ntmps63
  go_wp2
  generalize w.alloc (.cells #[.slice B m d] 67) = w1 at *
  go_loopw [10] (fun i wr => ∃ k : Nat, k ≤ n ∧ i = .int .i64 k ∧ subSet a b = subSet (a.drop k) b ∧ Ext w1 wr) (fun i _ => n - (intOf i).toNat)
  case atStart => exact ⟨0, by omega, rfl, rfl, Ext.refl _⟩
  case round =>
    obtain ⟨k, hk, rfl, hkk, hx⟩ := hrel
    have HK := Lib.hid hkk; clear hkk
    have ex := e1.trans hx
    have y0 := hx.cell k0
    have hlt0 : w.heap.size < wr.heap.size := Nat.lt_of_lt_of_le hs0 hx.size
    by_cases hlt : k < n
    · obtain ⟨x, hxx⟩ := hA.idx hlt
      obtain ⟨b1, o1, rfl, ⟨hb1, hb1n⟩, c1, c2, _, _⟩ := (hA.ext ex).span hxx
      have hrng := GA.rng x (List.mem_of_getElem? hxx)
      have HD := Lib.hid (drop_cons hxx); clear hxx
      have ey := ex.alloc (.cells #[.int .i32 x.lo, .int .i32 x.hi] 80)
      have ez := (Ext.refl wr).alloc (.cells #[.int .i32 x.lo, .int .i32 x.hi] 80)
      have hp : PredInt 126 #[.pointer (some ⟨w.heap.size, 0, none⟩), .pointer (some ⟨wr.heap.size, 0, none⟩)] (fun j => decide (x.lo ≤ (b.getD j default).hi)) m (wr.alloc (.cells #[.int .i32 x.lo, .int .i32 x.hi] 80)) := by
        intro W i hW hi
        exact subAt_any w.heap.size wr.heap.size B m d b x i W (hB.ext (ey.trans hW)) hi (hW.cell (ez.cell y0)) (hW.cell (by simp))
      have HC := Lib.hid (Search_any m _ _ _ _ (by omega) eg hp)
      have X0 := Lib.hid (cell_new wr #[.int .i32 x.lo, .int .i32 x.hi] 80 0 (.int .i32 x.lo) rfl)
      have X1 := Lib.hid (cell_new wr #[.int .i32 x.lo, .int .i32 x.hi] 80 1 (.int .i32 x.hi) rfl)
      clear hp
      go_upto_region 5 with (go_at_call 114; refine HC.out.mono ?_; rintro e w2 ⟨⟨i, rfl, hf⟩, hx2⟩; have z0 := hx2.cell (ez.cell y0); have v0 := hx2.cell X0.out; have v1 := hx2.cell X1.out)
      have hfd := hf
      rw [← hB.len] at hfd
      have HR := Lib.hid (sub_found GB hrng.2.1 hfd)
      clear hfd
      have hin := hf.1
      have hF := Lib.hid hf; clear hf
      have e2 := ey.trans hx2
      have HS : Hid (subSet a b = ((decide (i < m) && decide ((b.getD i default).lo ≤ x.lo) && decide (x.hi ≤ (b.getD i default).hi)) && subSet (a.drop (k + 1)) b)) := Lib.hid (by
        rw [HK.out, HD.out, subSet_cons, HR.out, hlB.out])
      have f2 := ez.trans hx2
      by_cases hi : i < m
      · obtain ⟨z, hzz⟩ := hB.idx hi
        obtain ⟨b2, o2, rfl, ⟨_, hb2n⟩, d1, d2, _, _⟩ := (hB.ext e2).span hzz
        have HZ := Lib.hid (getD_of hzz); clear hzz
        have hq : ((i : Int) == (m : Int)) = false := by simp; omega
        have hi' : (i : Int) < (m : Int) := by omega
        by_cases t1 : x.lo < z.lo
        · have HS2 : Hid (subSet a b = false) := Lib.hid (by rw [HS.out, HZ.out, decide_eq_false (by omega : ¬ z.lo ≤ x.lo)]; simp)
          have t1' : decide (x.lo < z.lo) = true := by simpa using t1
          clear t1
          go_quiet (fail)
          go_wp2
          go_ret
          rw [HS2.out]
          exact ⟨rfl, (ex.trans f2).drewN _⟩
        · have t1' : decide (x.lo < z.lo) = false := by simpa using t1
          by_cases t2 : z.hi < x.hi
          · have HS2 : Hid (subSet a b = false) := Lib.hid (by rw [HS.out, HZ.out, decide_eq_false (by omega : ¬ x.hi ≤ z.hi)]; simp)
            have t2' : decide (z.hi < x.hi) = true := by simpa using t2
            clear t1 t2
            go_quiet (fail)
            go_wp2
            go_ret
            rw [HS2.out]
            exact ⟨rfl, (ex.trans f2).drewN _⟩
          · have HS2 : Hid (subSet a b = subSet (a.drop (k + 1)) b) := Lib.hid (by rw [HS.out, HZ.out, decide_eq_true hi, decide_eq_true (by omega : z.lo ≤ x.lo), decide_eq_true (by omega : x.hi ≤ z.hi)]; simp)
            have t2' : decide (z.hi < x.hi) = false := by simpa using t2
            clear t1 t2
            go_quiet (fail)
            go_wp2
            go_roundw
            case rel => exact ⟨k + 1, by omega, by go_num, HS2.out, (hx.trans f2).drewN _⟩
            case measure => simp [intOf]; omega
      · have HS2 : Hid (subSet a b = false) := Lib.hid (by rw [HS.out, decide_eq_false hi]; simp)
        have hq : ((i : Int) == (m : Int)) = true := by simp; omega
        go_quiet (fail)
        go_wp2
        go_ret
        rw [HS2.out]
        exact ⟨rfl, (ex.trans f2).drewN _⟩
    · have HS2 : Hid (subSet a b = true) := Lib.hid (by rw [HK.out, drop_end hlA.out hlt, subSet_nil])
      go_wp2
      go_ret
      rw [HS2.out]
      exact ⟨rfl, ex⟩

theorem within_short {n w : List (List Sp)} (h : n.length < w.length) : within n w = false := by
  cases e : within n w
  · rfl
  · have := within_len e; omega
theorem within_nil (n : List (List Sp)) : within n [] = true := by cases n <;> rfl
theorem within_cons (a b : List Sp) (n w : List (List Sp)) : within (a :: n) (b :: w) = (subSet a b && within n w) := rfl

set_option maxRecDepth 100000 in
set_option maxHeartbeats 800000 in
theorem within_any (A : Option Addr) (n c : Nat) (l : List (List Sp)) (B : Option Addr) (m d : Nat) (r : List (List Sp)) (w : World) (hA : Sets w A n c l) (hB : Sets w B m d r) (ga : okSets l) (gb : okSets r) (hn : n ≤ 40) (hm : m ≤ 40) :
    Calls Try.prog 139 #[.slice A n c, .slice B m d] w fun e w' => e = .returned (.bool (within l r)) ∧ Ext w w' := by
  have hlA := Lib.hid hA.len; have hlB := Lib.hid hB.len
  have hcA := hA.cap; have hcB := hB.cap
  by_cases hb : n < m
  · have HS : Hid (within l r = false) := Lib.hid (within_short (by rw [hlA.out, hlB.out]; exact hb))
    have hb' : decide ((n : Int) < (m : Int)) = true := by simp; omega
    go_enter Try.func139, Try.ntmps139
    go_wp2
    go_ret
    rw [HS.out]
    exact ⟨rfl, Ext.refl _⟩
  · have hb' : decide ((n : Int) < (m : Int)) = false := by simp; omega
    go_enter Try.func139, Try.ntmps139
    go_wp2
    go_loopw [14] (fun i wr => ∃ k : Nat, k ≤ m ∧ i = .int .i64 k ∧ within l r = within (l.drop k) (r.drop k) ∧ Ext w wr) (fun i _ => m - (intOf i).toNat)
    case atStart => exact ⟨0, by omega, rfl, rfl, Ext.refl _⟩
    case round =>
      obtain ⟨k, hk, rfl, hkk, hx⟩ := hrel
      have HK := Lib.hid hkk; clear hkk
      by_cases hlt : k < m
      · obtain ⟨s, hss⟩ := hB.idx hlt
        obtain ⟨b1, o1, A1, n1, c1, rfl, ⟨_, hb1n⟩, k1, hS⟩ := (hB.ext hx).sl hss
        obtain ⟨u, huu⟩ := hA.idx (k := k) (by omega)
        obtain ⟨b2, o2, A2, n2, c2, rfl, ⟨_, hb2n⟩, k2, hU⟩ := (hA.ext hx).sl huu
        have HC := Lib.hid (Sub_any A2 n2 c2 u A1 n1 c1 s wr hU hS (ga u (List.mem_of_getElem? huu)) (gb s (List.mem_of_getElem? hss)))
        have HD := Lib.hid (drop_cons hss); have HE := Lib.hid (drop_cons huu); clear hss huu hS hU
        cases hr : subSet u s
        · have HR := Lib.hid hr; clear hr
          have HS2 : Hid (within l r = false) := Lib.hid (by rw [HK.out, HD.out, HE.out, within_cons, HR.out]; rfl)
          go_wp2_with (go_at_call 63; refine HC.out.mono ?_; rintro e w1 ⟨rfl, hx1⟩; rw [HR.out])
          go_ret
          rw [HS2.out]
          exact ⟨rfl, hx.trans hx1⟩
        · have HR := Lib.hid hr; clear hr
          go_wp2_with (go_at_call 63; refine HC.out.mono ?_; rintro e w1 ⟨rfl, hx1⟩; rw [HR.out])
          go_roundw
          case rel => exact ⟨k + 1, by omega, by go_num, by rw [HK.out, HD.out, HE.out, within_cons, HR.out, Bool.true_and], hx.trans hx1⟩
          case measure => simp [intOf]; omega
      · have HS2 : Hid (within l r = true) := Lib.hid (by rw [HK.out, drop_end hlB.out hlt, within_nil])
        go_wp2
        go_ret
        rw [HS2.out]
        exact ⟨rfl, hx⟩

end Go.Proofs.Ytfdkbhbnldcbmaa
