/- Walk of the law PairApart. -/
import Derived.Test.YtfdkbhbnldcbmaaM20
namespace Go.Proofs.Ytfdkbhbnldcbmaa
open Go.RowKit
set_option linter.unusedVariables false
set_option linter.unusedSimpArgs false

section
variable (A : Option Addr) (n c : Nat) (f : List Rule) (A' : Option Addr) (n' c' : Nat) (b : List Rule) (B : Option Addr) (m d : Nat) (ds : List Sp) (X : Option Addr) (p q : Nat) (t : List Int) (Y : Option Addr) (p' q' : Nat) (u : List Int) (w : World) (hf : Rules w A n c f) (hb : Rules w A' n' c' b) (hd : Spans w B m d ds) (ht : Runes w X p q t) (hu : Runes w Y p' q' u)

set_option maxRecDepth 100000 in
set_option maxHeartbeats 800000 in
include hf hb hd in
theorem PairApart_no (hv : pairV f b ds = false) : Calls Try.prog 13 #[.slice A n c, .slice A' n' c', .slice B m d, .slice X p q, .slice Y p' q'] w fun e w' => e = .returned (.bool true) ∧ Ext w w' := by
  have C1 := Lib.hid (alive14_any w)
  have C2 := Lib.hid (fun W (e : Ext w W) => pairSure_any A n c f A' n' c' b B m d ds W (hf.ext e) (hb.ext e) (hd.ext e))
  unfold SureR at C2
  rw [hv] at C2
  clear hf hb hd hv
  by_cases hx : pairE f b ds = 0
  · rw [hx] at C2
    go_enter Try.func13, Try.ntmps13
    go_wp2_with (first
      | (go_at_call 50; refine C1.out.mono ?_; rintro e w1 ⟨rfl, x1⟩)
      | (go_at_call 48; refine (C2.out _ x1).mono ?_; rintro e w2 ⟨rfl, x2⟩))
    go_ret
    exact ⟨rfl, x1.trans x2⟩
  · have hn : (pairE f b ds != 0) = true := by simpa using hx
    generalize pairE f b ds = v at *
    go_enter Try.func13, Try.ntmps13
    go_wp2_with (first
      | (go_at_call 50; refine C1.out.mono ?_; rintro e w1 ⟨rfl, x1⟩)
      | (go_at_call 48; refine (C2.out _ x1).mono ?_; rintro e w2 ⟨rfl, x2⟩))
    go_ret
    exact ⟨rfl, x1.trans x2⟩

set_option maxRecDepth 100000 in
set_option maxHeartbeats 800000 in
include hf hb hd ht hu in
theorem PairApart_same (hv : pairV f b ds = true) (he : t = u) : Calls Try.prog 13 #[.slice A n c, .slice A' n' c', .slice B m d, .slice X p q, .slice Y p' q'] w fun e w' => e = .returned (.bool true) ∧ Ext w w' := by
  have C1 := Lib.hid (alive14_any w)
  have C2 := Lib.hid (fun W (e : Ext w W) => pairSure_any A n c f A' n' c' b B m d ds W (hf.ext e) (hb.ext e) (hd.ext e))
  have C3 := Lib.hid (fun W (e : Ext w W) => Same_any X Y p q p' q' t u W (ht.ext e) (hu.ext e))
  rw [decide_eq_true he] at C3
  unfold SureR at C2
  have hE : pairE f b ds = 0 := by
    unfold pairV at hv
    simp only [Bool.and_eq_true, decide_eq_true_eq] at hv
    exact hv.1.1
  rw [hv, hE] at C2
  clear hf hb hd hv ht hu he hE
  go_enter Try.func13, Try.ntmps13
  go_wp2_with (first
    | (go_at_call 50; refine C1.out.mono ?_; rintro e w1 ⟨rfl, x1⟩)
    | (go_at_call 48; refine (C2.out _ x1).mono ?_; rintro e w2 ⟨rfl, x2⟩; have e2 := x1.trans x2)
    | (go_at_call 30; refine (C3.out _ e2).mono ?_; rintro e w3 ⟨rfl, x3⟩))
  go_ret
  exact ⟨rfl, e2.trans x3⟩

set_option maxRecDepth 100000 in
set_option maxHeartbeats 1600000 in
include hf hb hd ht hu in
theorem PairApart_yes (hv : pairV f b ds = true) (hne : ¬ t = u) (hz : p ≤ 4194304) (hz' : p' ≤ 4194304) : Calls Try.prog 13 #[.slice A n c, .slice A' n' c', .slice B m d, .slice X p q, .slice Y p' q'] w fun e w' => e = .returned (.bool true) ∧ Ext w w' := by
  have C1 := Lib.hid (alive14_any w)
  have C2 := Lib.hid (fun W (e : Ext w W) => pairSure_any A n c f A' n' c' b B m d ds W (hf.ext e) (hb.ext e) (hd.ext e))
  unfold SureR at C2
  obtain ⟨hE, hW⟩ : pairE f b ds = 0 ∧ wrongSet ds = 0 := by
    obtain ⟨h0, h1, h2, _⟩ := pairV_parts hv
    refine ⟨?_, h2⟩
    unfold pairV at hv
    simp only [Bool.and_eq_true, decide_eq_true_eq] at hv
    exact hv.1.1
  rw [hv, hE] at C2
  have C3 := Lib.hid (fun W x (e : Ext w W) => setsHas_any B m d ds x W (hd.ext e) hW)
  have C4 := Lib.hid (fun W (e : Ext w W) => Run_any A n c f X p q t W (hf.ext e) (ht.ext e))
  have C5 := Lib.hid (fun W (e : Ext w W) => Run_any A n c f Y p' q' u W (hf.ext e) (hu.ext e))
  have C6 := Lib.hid (fun W (e : Ext w W) => Same_any X Y p q p' q' t u W (ht.ext e) (hu.ext e))
  rw [decide_eq_false hne] at C6
  unfold RunR at C4 C5
  have HL : Hid ((∀ x ∈ t, has ds x = true) → (∀ x ∈ u, has ds x = true) → ¬ ((runF f t).1 = 0 ∧ (runF f u).1 = 0 ∧ (runAll f t).text = (runAll f u).text)) := Lib.hid (by
    intro g1 g2 ⟨a1, a2, a3⟩
    refine hne (apart_law hv g1 g2 ?_ ?_ a3)
    · rcases undone_law hv g1 with h | h
      · rw [a1] at h; omega
      · exact h.1
    · rcases undone_law hv g2 with h | h
      · rw [a2] at h; omega
      · exact h.1)
  have HT := Lib.hid ht
  have HU := Lib.hid hu
  have HN := Lib.hid hne
  have hcap := ht.cap; have hmax := ht.max; unfold maxLen at hmax
  have hcap' := hu.cap; have hmax' := hu.max; unfold maxLen at hmax'
  have hlen := Lib.hid ht.len
  have hlen' := Lib.hid hu.len
  clear hf hb hd hv hE hW ht hu hne
  go_enter Try.func13, Try.ntmps13
  go_wp2_with (first
    | (go_at_call 50; refine C1.out.mono ?_; rintro e w1 ⟨rfl, x1⟩)
    | (go_at_call 48; refine (C2.out _ x1).mono ?_; rintro e w2 ⟨rfl, x2⟩; have e2 := x1.trans x2)
    | (go_at_call 30
       refine (C6.out _ e2).mono ?_
       rintro e w3 ⟨rfl, x3⟩
       have e3 := e2.trans x3
       have e4 := e3.alloc (.cells #[] 21)
       have f4 := (Ext.refl w3).alloc (.cells #[] 21)
       have o4 := OwnR.empty rRune 21 1 w3.heap.size w3 (Nat.le_refl _))
    | (at_builtin
       refine wpList_app T_rune rfl (.tmp 39) (.tmp 40) rfl rfl o4 rfl (HT.out.ext e4) (fun _ _ h => h) one_rune (keep_rune bot) (bot_no _) ?_ ?_ f4.size ?_
       · simp only [List.length_nil]; omega
       · unfold maxLen; simp only [List.length_nil]; omega
       intro v5 w5 o5 g5 hat5
       have f5 := f4.app g5 o4
       rw [List.nil_append] at o5)
    | (at_builtin
       refine wpList_app T_rune rfl (.tmp 41) (.tmp 42) rfl rfl o5 rfl (HU.out.ext (e3.trans f5)) (fun _ _ h => h) one_rune (keep_rune bot) (bot_no _) ?_ ?_ f5.size ?_
       · rw [hlen.out]; omega
       · unfold maxLen; rw [hlen.out]; omega
       intro v6 w6 o6 g6 hat6
       have f6 := f5.app g6 o5
       obtain ⟨A6, c6, hv6, s6⟩ := o6.top
       rw [List.length_append, hlen.out, hlen'.out] at hv6 s6
       subst hv6
       have e6 := e3.trans f6
       have hcap6 := s6.cap
       have hmax6 := s6.max
       unfold maxLen at hmax6
       have S6 : Hid (Runes w6 A6 (p + p') c6 (t ++ u)) := Lib.hid s6
       clear o4 o5 o6 s6))
  clear C1 C2 C6
  go_loopw [45] (fun i wr => ∃ k : Nat, k ≤ p + p' ∧ i = .int .i64 k ∧ Hid (∀ x ∈ (t ++ u).take k, has ds x = true) ∧ Ext w6 wr) (fun i _ => p + p' - (intOf i).toNat)
  case atStart => exact ⟨0, by omega, rfl, Lib.hid (by simp), Ext.refl _⟩
  case round =>
    obtain ⟨k, hk, rfl, HK, hx⟩ := hrel
    by_cases hlt : k < p + p'
    · obtain ⟨x, hxx⟩ := S6.out.idx hlt
      obtain ⟨b0, off, rfl, _, hc, hi1, hi2⟩ := (S6.out.ext hx).rune hxx
      have HC := Lib.hid (C3.out wr x (e6.trans hx))
      have HTK := Lib.hid (take_snoc hxx)
      clear hxx
      cases hh : has ds x
      · rw [hh] at HC
        go_wp2_with (go_at_call 51; refine HC.out.mono ?_; rintro e w7 ⟨rfl, x7⟩)
        go_ret
        exact ⟨rfl, (e6.trans hx).trans x7⟩
      · have HQ : Hid (∀ y ∈ (t ++ u).take (k + 1), has ds y = true) := Lib.hid (by
          rw [HTK.out]; intro y hy
          rcases List.mem_append.1 hy with hy | hy
          · exact HK.out y hy
          · simp at hy; subst hy; exact hh)
        rw [hh] at HC
        clear hh
        go_wp2_with (go_at_call 51; refine HC.out.mono ?_; rintro e w7 ⟨rfl, x7⟩)
        go_roundw
        case rel => exact ⟨k + 1, by omega, by go_num, HQ, hx.trans x7⟩
        case measure => simp [intOf]; omega
    · have hA : ∀ x ∈ t ++ u, has ds x = true := by
        have := HK.out
        rwa [take_all (by rw [List.length_append, hlen.out, hlen'.out]) (by omega : p + p' ≤ k)] at this
      have hL := HL.out (fun x h => hA x (List.mem_append.2 (.inl h))) (fun x h => hA x (List.mem_append.2 (.inr h)))
      have HR := Lib.hid hL
      have E7 := Lib.hid (e6.trans hx)
      clear HL HK C3 hL hA hx HT HU S6
      generalize (runAll f t).steps = st at *
      generalize (runAll f t).put = pt at *
      generalize (runAll f t).text = tx at *
      generalize (runF f t).2 = z1 at *
      generalize (runF f t).1 = y1 at *
      generalize (runAll f u).steps = st2 at *
      generalize (runAll f u).put = pt2 at *
      generalize (runAll f u).text = tx2 at *
      generalize (runF f u).2 = z2 at *
      generalize (runF f u).1 = y2 at *
      by_cases g1 : y1 = 0
      · subst g1
        by_cases g2 : y2 = 0
        · subst g2
          have HD : Hid (decide (tx = tx2) = false) := Lib.hid (decide_eq_false (fun h => HR.out ⟨rfl, rfl, h⟩))
          clear HR
          go_wp2_with (first
            | (go_at_call 36
               (with_reducible refine (C4.out _ E7.out).mono ?_)
               rintro e w8 ⟨⟨A1, n1, c1, rfl, hA⟩, x8⟩
               have e8 := ((E7.out.trans x8).alloc (.cells #[.slice A1 n1 c1, .int .i64 st, .int .i64 pt] 45)).alloc (.cells #[.int .i64 0, .int .i64 z1] 38)
               have d8 := ((Ext.refl w8).alloc (.cells #[.slice A1 n1 c1, .int .i64 st, .int .i64 pt] 45)).alloc (.cells #[.int .i64 0, .int .i64 z1] 38)
               have I0 := Lib.hid (cell_new2 (w8.alloc (.cells #[.slice A1 n1 c1, .int .i64 st, .int .i64 pt] 45)) #[.int .i64 0, .int .i64 z1] 38 0 (.int .i64 0) rfl (B := w8.heap.size + 1) (by simp))
               have I1 := Lib.hid (((Ext.refl _).alloc (.cells #[.int .i64 0, .int .i64 z1] 38)).cell (cell_new2 w8 #[.slice A1 n1 c1, .int .i64 st, .int .i64 pt] 45 0 (.slice A1 n1 c1) rfl (B := w8.heap.size) rfl)))
            | (go_at_call 36
               (with_reducible refine (C5.out _ e8).mono ?_)
               rintro e w9 ⟨⟨A2, n2, c2, rfl, hB⟩, x9⟩
               have q0 := x9.cell I0.out
               have q1 := x9.cell I1.out
               have ql := World.block_lt_of_cell? _ _ q0
               have ql1 := World.block_lt_of_cell? _ _ q1
               have e9 := ((e8.trans x9).alloc (.cells #[.slice A2 n2 c2, .int .i64 st2, .int .i64 pt2] 45)).alloc (.cells #[.int .i64 0, .int .i64 z2] 38)
               have d9 := (x9.alloc (.cells #[.slice A2 n2 c2, .int .i64 st2, .int .i64 pt2] 45)).alloc (.cells #[.int .i64 0, .int .i64 z2] 38)
               have hA9 := Lib.hid (Runes.ext hA (d8.trans d9))
               have hB9 := Lib.hid (Runes.ext hB (((Ext.refl w9).alloc (.cells #[.slice A2 n2 c2, .int .i64 st2, .int .i64 pt2] 45)).alloc (.cells #[.int .i64 0, .int .i64 z2] 38))))
            | (go_at_call 30
               go_loud (refine (Same_any _ _ _ _ _ _ _ _ _ hA9.out hB9.out).mono ?_)
               rintro e w10 ⟨rfl, x10⟩
               rw [HD.out]))
          go_ret
          exact ⟨rfl, e9.trans x10⟩
        · have gn : (y2 != 0) = true := by simpa using g2
          clear g2 HR
          go_wp2_with (first
            | (go_at_call 36
               (with_reducible refine (C4.out _ E7.out).mono ?_)
               rintro e w8 ⟨⟨A1, n1, c1, rfl, hA⟩, x8⟩
               have e8 := ((E7.out.trans x8).alloc (.cells #[.slice A1 n1 c1, .int .i64 st, .int .i64 pt] 45)).alloc (.cells #[.int .i64 0, .int .i64 z1] 38)
               have d8 := ((Ext.refl w8).alloc (.cells #[.slice A1 n1 c1, .int .i64 st, .int .i64 pt] 45)).alloc (.cells #[.int .i64 0, .int .i64 z1] 38)
               have I0 := Lib.hid (cell_new2 (w8.alloc (.cells #[.slice A1 n1 c1, .int .i64 st, .int .i64 pt] 45)) #[.int .i64 0, .int .i64 z1] 38 0 (.int .i64 0) rfl (B := w8.heap.size + 1) (by simp))
               have I1 := Lib.hid (((Ext.refl _).alloc (.cells #[.int .i64 0, .int .i64 z1] 38)).cell (cell_new2 w8 #[.slice A1 n1 c1, .int .i64 st, .int .i64 pt] 45 0 (.slice A1 n1 c1) rfl (B := w8.heap.size) rfl)))
            | (go_at_call 36
               (with_reducible refine (C5.out _ e8).mono ?_)
               rintro e w9 ⟨⟨A2, n2, c2, rfl, hB⟩, x9⟩
               have q0 := x9.cell I0.out
               have q1 := x9.cell I1.out
               have ql := World.block_lt_of_cell? _ _ q0
               have ql1 := World.block_lt_of_cell? _ _ q1
               have e9 := ((e8.trans x9).alloc (.cells #[.slice A2 n2 c2, .int .i64 st2, .int .i64 pt2] 45)).alloc (.cells #[.int .i64 y2, .int .i64 z2] 38)
               have d9 := (x9.alloc (.cells #[.slice A2 n2 c2, .int .i64 st2, .int .i64 pt2] 45)).alloc (.cells #[.int .i64 y2, .int .i64 z2] 38)
               have hA9 := Lib.hid (Runes.ext hA (d8.trans d9))
               have hB9 := Lib.hid (Runes.ext hB (((Ext.refl w9).alloc (.cells #[.slice A2 n2 c2, .int .i64 st2, .int .i64 pt2] 45)).alloc (.cells #[.int .i64 y2, .int .i64 z2] 38)))))
          go_ret
          exact ⟨rfl, e9⟩
      · have gn : (y1 != 0) = true := by simpa using g1
        clear g1 HR
        go_wp2_with (first
          | (go_at_call 36
             (with_reducible refine (C4.out _ E7.out).mono ?_)
             rintro e w8 ⟨⟨A1, n1, c1, rfl, hA⟩, x8⟩
             have e8 := ((E7.out.trans x8).alloc (.cells #[.slice A1 n1 c1, .int .i64 st, .int .i64 pt] 45)).alloc (.cells #[.int .i64 y1, .int .i64 z1] 38)
             have d8 := ((Ext.refl w8).alloc (.cells #[.slice A1 n1 c1, .int .i64 st, .int .i64 pt] 45)).alloc (.cells #[.int .i64 y1, .int .i64 z1] 38)
             have I0 := Lib.hid (cell_new2 (w8.alloc (.cells #[.slice A1 n1 c1, .int .i64 st, .int .i64 pt] 45)) #[.int .i64 y1, .int .i64 z1] 38 0 (.int .i64 y1) rfl (B := w8.heap.size + 1) (by simp))
             have I1 := Lib.hid (((Ext.refl _).alloc (.cells #[.int .i64 y1, .int .i64 z1] 38)).cell (cell_new2 w8 #[.slice A1 n1 c1, .int .i64 st, .int .i64 pt] 45 0 (.slice A1 n1 c1) rfl (B := w8.heap.size) rfl)))
          | (go_at_call 36
             (with_reducible refine (C5.out _ e8).mono ?_)
             rintro e w9 ⟨⟨A2, n2, c2, rfl, hB⟩, x9⟩
             have q0 := x9.cell I0.out
             have q1 := x9.cell I1.out
             have ql := World.block_lt_of_cell? _ _ q0
             have ql1 := World.block_lt_of_cell? _ _ q1
             have e9 := ((e8.trans x9).alloc (.cells #[.slice A2 n2 c2, .int .i64 st2, .int .i64 pt2] 45)).alloc (.cells #[.int .i64 y2, .int .i64 z2] 38)
             have d9 := (x9.alloc (.cells #[.slice A2 n2 c2, .int .i64 st2, .int .i64 pt2] 45)).alloc (.cells #[.int .i64 y2, .int .i64 z2] 38)
             have hA9 := Lib.hid (Runes.ext hA (d8.trans d9))
             have hB9 := Lib.hid (Runes.ext hB (((Ext.refl w9).alloc (.cells #[.slice A2 n2 c2, .int .i64 st2, .int .i64 pt2] 45)).alloc (.cells #[.int .i64 y2, .int .i64 z2] 38)))))
        go_ret
        exact ⟨rfl, e9⟩

include hf hb hd ht hu in
theorem PairApart_any (hz : p ≤ 4194304) (hz' : p' ≤ 4194304) : Calls Try.prog 13 #[.slice A n c, .slice A' n' c', .slice B m d, .slice X p q, .slice Y p' q'] w fun e w' => e = .returned (.bool true) ∧ Ext w w' := by
  cases hv : pairV f b ds
  · exact PairApart_no A n c f A' n' c' b B m d ds X p q Y p' q' w hf hb hd hv
  · by_cases he : t = u
    · exact PairApart_same A n c f A' n' c' b B m d ds X p q t Y p' q' u w hf hb hd ht hu hv he
    · exact PairApart_yes A n c f A' n' c' b B m d ds X p q t Y p' q' u w hf hb hd ht hu hv he hz hz'
end

end Go.Proofs.Ytfdkbhbnldcbmaa
