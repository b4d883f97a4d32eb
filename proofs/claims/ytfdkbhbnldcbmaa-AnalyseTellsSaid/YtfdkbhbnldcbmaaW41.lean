/- Walk: the edges of sets (the document's Edges). -/
import Derived.Test.YtfdkbhbnldcbmaaW40
import Derived.Test.YtfdkbhbnldcbmaaPl3
namespace Go.Proofs.Ytfdkbhbnldcbmaa
open Go.RowKit
set_option linter.unusedVariables false
set_option linter.unusedSimpArgs false

/-- the edges of several sets -/
def edgesAll (ls : List (List Sp)) (e : List Int) : List Int := ls.foldl (fun e s => edgesOf s e) e
theorem edgesAll_snoc (ls : List (List Sp)) (s : List Sp) (e : List Int) : edgesAll (ls ++ [s]) e = edgesOf s (edgesAll ls e) := by simp [edgesAll]
theorem edgesOf_snoc (l : List Sp) (x : Sp) (e : List Int) : edgesOf (l ++ [x]) e = putE (putE (edgesOf l e) x.lo) (x.hi + 1) := by simp [edgesOf]
theorem edgesAll_0 : ∀ (ls : List (List Sp)) {e : List Int}, Edge0 e → (∀ s ∈ ls, ∀ x ∈ s, okSp x) → Edge0 (edgesAll ls e)
  | [], e, h, _ => h
  | s :: ls, e, h, hl => edgesAll_0 ls (h.of (hl s (by simp))) (fun t ht => hl t (by simp [ht]))

set_option maxRecDepth 100000 in
set_option maxHeartbeats 4000000 in
theorem Edges_any (A : Option Addr) (n c : Nat) (ls : List (List Sp)) (w : World) (h : Sets w A n c ls) (hok : ∀ s ∈ ls, ∀ x ∈ s, okSp x) :
    Calls Try.prog 123 #[.slice A n c] w fun e w' => ∃ v, e = .returned v ∧ OwnR rRune 21 1 w.heap.size w' v (edgesAll ls [0]) ∧ Ext w w' := by
  have hlen := Lib.hid h.len
  have hcap := h.cap
  have hmax := h.max
  unfold maxLen at hmax
  have OK := Lib.hid hok; clear hok
  have hi0 : i32 0 := ⟨by omega, by omega⟩
  have hmf : ∀ (fn : Fn) (first cap : Array Value) (w : World), (Instr.makeFunc fn first cap).run Try.prog w = .ok (.func fn first cap) w := fun _ _ _ _ => rfl
  have eg : ∀ args w, (callFunc 149 args).run Try.prog w = .ok (.enter 149 args) w := enters Try.func149 (by kernel_rfl) rfl
  have E0 : EdAt w ((w.alloc (.cells #[.int .i32 0] 21)).alloc (.cells #[.slice (some ⟨w.heap.size, 0, none⟩) 1 1] 23)) (w.heap.size + 1) (.slice (some ⟨w.heap.size, 0, none⟩) 1 1) [0] := by
    have x1 := (Ext.refl w).alloc (.cells #[.int .i32 0] 21)
    have hw := Wr.new (w.alloc (.cells #[.int .i32 0] 21)) #[.slice (some ⟨w.heap.size, 0, none⟩) 1 1] 23
    have o := OwnR.fresh (R := rRune) (e := 21) (sz := 1) (base := w.heap.size) (w := w) (l := [0]) (cs := [.int .i32 0]) (Nat.le_refl _) (by unfold maxLen; simp) (Enc.sing rfl ⟨rfl, hi0⟩)
    have o2 := o.ext (keep_rune bot) ((Ext.refl _).alloc (.cells #[.slice (some ⟨w.heap.size, 0, none⟩) 1 1] 23))
    refine ⟨x1.alloc _, by omega, by simpa using hw, by simp, by simpa using o2, by simp [Value.ownBlock]⟩
  go_enter Try.func123, Try.ntmps123
  go_wp2
  clear eg hmf
  generalize ((w.alloc (.cells #[.int .i32 0] 21)).alloc (.cells #[.slice (some ⟨w.heap.size, 0, none⟩) 1 1] 23)) = w0 at *
  have hB0 : w.heap.size ≤ w.heap.size + 1 := by omega
  generalize hBB : w.heap.size + 1 = B at *
  clear hBB
  have S0 : ∃ v, EdAt w w0 B v (edgesAll (ls.take 0) [0]) := ⟨_, E0⟩
  have hE := fun k => edgesAll_0 (ls.take k) edge0_one (fun s hs => OK.out s (List.mem_of_mem_take hs))
  have HE := Lib.hid hE
  clear hE E0
  go_loopw [13] (fun i wr => ∃ k : Nat, k ≤ n ∧ i = .int .i64 k ∧ EdR w wr B (edgesAll (ls.take k) [0])) (fun i _ => n - (intOf i).toNat)
  case atStart => exact ⟨0, by omega, rfl, S0⟩
  case round =>
    obtain ⟨k, hk, rfl, v, hv⟩ := hrel
    have hx := hv.ext
    clear S0
    by_cases hlt : k < n
    · obtain ⟨s, hss⟩ := h.idx hlt
      obtain ⟨b, off, A', n', c', rfl, ⟨hb0, _⟩, hc0, hsl⟩ := h.sl hss
      have hc := hx.cell hc0
      have hne : b ≠ wr.heap.size := by have := hx.size; omega
      clear hc0 hb0
      have HT := Lib.hid (take_snoc hss)
      have hoks := OK.out s (List.mem_of_getElem? hss)
      have HO := Lib.hid hoks
      have HE0 := Lib.hid (HE.out k)
      have hlen' := Lib.hid hsl.len
      have hsl : Spans w A' n' c' s := hsl
      have hcap' := hsl.cap
      have hmax' := hsl.max
      unfold maxLen at hmax'
      have HV := Lib.hid hv
      clear hss hoks hv
      generalize hEE : edgesAll (ls.take k) [0] = E at *
      have HEE := Lib.hid hEE; clear hEE
      go_wp2
      clear hc
      have S1 : EdR w wr B (edgesOf (s.take 0) E) := ⟨v, HV.out⟩
      go_loopw [19] (fun i w1 => ∃ j : Nat, j ≤ n' ∧ i = .int .i64 j ∧ EdR w w1 B (edgesOf (s.take j) E)) (fun i _ => n' - (intOf i).toNat)
      case atStart => exact ⟨0, by omega, rfl, S1⟩
      case round =>
        obtain ⟨j, hj, rfl, v1, hv1⟩ := hrel
        clear S1
        have hx1 := hv1.ext
        by_cases hj2 : j < n'
        · obtain ⟨x, hxx⟩ := hsl.idx hj2
          obtain ⟨b', off', rfl, ⟨_, hne'⟩, c1, c2, _, _⟩ := (hsl.ext hx1).span hxx
          have hok := HO.out x (List.mem_of_getElem? hxx)
          unfold okSp at hok
          obtain ⟨ho1, ho2, ho3⟩ := hok
          have HT2 : Hid (edgesOf (s.take (j + 1)) E = putE (putE (edgesOf (s.take j) E) x.lo) (x.hi + 1)) := Lib.hid (by rw [take_snoc hxx, edgesOf_snoc])
          have e0 : Edge0 (edgesOf (s.take j) E) := HE0.out.of (fun y hy => HO.out y (List.mem_of_mem_take hy))
          have e1 := e0.put (r := x.lo) ho1
          have L0 := e0.edge.len
          have L1 := e1.edge.len
          have hwB := hv1.wr.1
          clear hxx e0 e1
          generalize edgesOf (s.take j) E = E1 at *
          have C1 := Lib.hid (putIn_any w B v1 E1 x.lo _ (hv1.app ((Ext.refl wr).alloc (.cells #[.int .i32 x.lo, .int .i32 x.hi] 80))) L0 ho1 (by omega))
          have y1 := Lib.hid (cell_new wr #[.int .i32 x.lo, .int .i32 x.hi] 80 1 (.int .i32 x.hi) rfl)
          have C2 := Lib.hid (fun W v (hv : EdAt w W B v (putE E1 x.lo)) => putIn_any w B v _ (x.hi + 1) W hv L1 (by omega) (by omega))
          have hnB : notB B wr.heap.size := fun hq => by omega
          have HNB := Lib.hid hnB
          clear hnB hv1
          go_wp2_with (first
            | (go_at_call 149; (with_reducible refine C1.out.mono ?_); rintro e w2 ⟨rfl, ⟨v2, r2⟩, a2⟩; have y2 := a2.cell HNB.out y1.out; have R2 := Lib.hid r2; clear r2 a2)
            | (go_at_call 149; (with_reducible refine (C2.out w2 v2 R2.out).mono ?_); rintro e w3 ⟨rfl, ⟨v3, r3⟩, a3⟩; have R3 := Lib.hid r3; clear r3 a3))
          go_roundw
          case rel => exact ⟨j + 1, by omega, by go_num, by rw [HT2.out]; exact ⟨v3, R3.out⟩⟩
          case measure => simp [intOf]; omega
        · have HV1 := Lib.hid hv1
          clear hv1
          go_wp2
          go_roundw
          case rel => exact ⟨k + 1, by omega, by go_num, by rw [HT.out, edgesAll_snoc, HEE.out]; rw [take_all hlen'.out (by omega)] at HV1; exact ⟨v1, HV1.out⟩⟩
          case measure => simp [intOf]; omega
    · have hcell := hv.cell
      have HV := Lib.hid hv
      have HA : Hid (edgesAll (ls.take k) [0] = edgesAll ls [0]) := Lib.hid (by rw [take_all hlen.out (by omega)])
      clear hv
      go_wp2
      go_ret
      exact ⟨v, rfl, by rw [← HA.out]; exact HV.out.own, hx⟩

end Go.Proofs.Ytfdkbhbnldcbmaa
