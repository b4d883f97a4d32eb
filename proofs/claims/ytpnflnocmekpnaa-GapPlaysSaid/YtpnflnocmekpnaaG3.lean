/- Walk of New. -/
import Derived.Test.YtpnflnocmekpnaaG2
import Derived.Deep.OwnRows
import Derived.Deep.RegionLaw
namespace Go.Proofs.Ytpnflnocmekpnaa
open Go.RowKit
set_option linter.unusedVariables false
set_option linter.unusedSimpArgs false

theorem infoRune : (Try.prog.info? 21).map (fun i => (i.zero, i.size, i.bytes)) = some (some (.int .i32 0), 1, 4) := by kernel_rfl
theorem sizeRune : (Try.prog.info? 21).map (·.size) = some 1 := by kernel_rfl
theorem tRunes : ElemT Try.prog 22 21 1 4 := elemT Try.underlying22 infoRune rfl (by omega)
theorem zeros_cells (n : Nat) : madeCells #[Value.int .i32 0] n = (cellsOf (List.replicate n 0)).toArray := by
  apply Array.ext
  · simp [cellsOf, size_madeCells]
  · intro i h1 h2
    simp [madeCells, cellsOf, Nat.mod_one]
theorem make_runes (n : Nat) (hn : n ≤ 60000) (W : World) : (Instr.makeSlice 22 (.int .i64 (n : Int)) (.int .i64 (n : Int))).run Try.prog W = .ok (.slice (some ⟨W.heap.size, 0, none⟩) n n) (W.alloc (.cells (cellsOf (List.replicate n 0)).toArray 21)) := by
  rw [← zeros_cells]
  exact run_make_row' (P := Try.prog) _ _ _ _ Try.underlying22 infoRune rfl .i64 .i64 n (by omega) (by omega) W


theorem cellsOf_splice (L M : List Int) (off : Nat) : splice (cellsOf L) off (cellsOf M) = cellsOf (splice L off M) := by
  simp [splice, cellsOf, List.map_take, List.map_drop]
theorem splice_len (L M : List Int) (off : Nat) (h : off + M.length ≤ L.length) : (splice L off M).length = L.length := length_splice L off M h
theorem splice_mem {L M : List Int} {off : Nat} {x : Int} (h : x ∈ splice L off M) : x ∈ L ∨ x ∈ M := by
  unfold splice at h
  simp only [List.mem_append] at h
  rcases h with h | h | h
  · exact .inl (List.mem_of_mem_take h)
  · exact .inr h
  · exact .inl (List.mem_of_mem_drop h)

/-- 'copy' of runes that fit, as one step of a region -/
theorem step_copyR {P : Program} {ops : Array Oper} {o : Oper} {a : Act} {w : World} {K : Act → World → Prop} {Q : Exit → Act → World → Prop} {E : Prop} (hgd : o.guard = none) (d s : Operand) (dT sT : TypeId)
    (ho : o.op = .call { callee := .builtin .copy, args := #[d, s], argTypes := #[dT, sT] }) (elem : TypeId) (hu : P.underlying dT = some (.slice elem)) (hsz : (P.info? elem).map (·.size) = some 1)
    (dp sp : Option Addr) (dLen dCap m sc : Nat) (hd : a.eval d = .slice dp dLen dCap) (hs : a.eval s = .slice sp m sc) {M : List Int} (hsrc : Runes w sp m sc M) (hm : m ≤ dLen)
    (g off : Nat) (L : List Int) (t : TypeId) (hg : w.heap[g]? = some (.cells (cellsOf L).toArray t (0, 0))) (hp : 0 < m → dp = some ⟨g, off, none⟩) (hfit : off + m ≤ L.length)
    (h : ∀ w', Hid (w'.heap[g]? = some (.cells (cellsOf (splice L off M)).toArray t (0, 0))) → Below g w w' → Hid (∀ k, k ≠ g → w'.heap[k]? = w.heap[k]?) → K (a.put o.dst (.int .i64 (m : Nat))) w') :
    if Region.wanted o (yielded ops a.tmps) = true then Oper.wp P o a w K Q else E := by
  have hw : Region.wanted o (yielded ops a.tmps) = true := by simp [Region.wanted, hgd]
  rw [if_pos hw]
  have hM := hsrc.len
  have hmin : (cellsOf M).length = Nat.min m dLen := by rw [cellsOf_len, hM]; exact (Nat.min_eq_left hm).symm
  by_cases h0 : m = 0
  · subst h0
    obtain rfl : M = [] := List.eq_nil_of_length_eq_zero hM
    have hrun := run_copy_none (P := P) w dT sT o.type elem dp sp dLen dCap 0 sc hu hsz (by simp)
    unfold Oper.wp
    simp [execOp, ho, resolve, invoke, builtin, hd, hs, hrun, Result.andThen]
    exact h w (show _ = _ by simpa [splice] using hg) (Below.refl _ _) (fun _ _ => rfl)
  · obtain rfl := hp (by omega)
    obtain ⟨x0, hx0⟩ := hsrc.idx (k := 0) (by omega)
    obtain ⟨b, o', rfl, _⟩ := hsrc.rune hx0
    have hcs : ∀ j v, (cellsOf M)[j]? = some v → w.cell? ((⟨b, o', none⟩ : Addr).add j) = some v := fun j v hv => by
      simp only [cellsOf, List.getElem?_map, Option.map_eq_some_iff] at hv
      obtain ⟨x, hx, rfl⟩ := hv
      obtain ⟨b1, o1, e1, _, hc, _⟩ := hsrc.rune hx
      simp only [Option.some.injEq, Addr.mk.injEq, and_true] at e1
      obtain ⟨rfl, rfl⟩ := e1
      rw [addr_add]; exact hc
    have hrun := run_copy_row (P := P) w dT sT o.type elem g off dLen dCap ⟨b, o', none⟩ m sc (cellsOf L).toArray t (cellsOf M) hu hsz hg hmin hcs (by simpa [cellsOf_len, hM] using hfit) (fun v hv => by
      simp only [cellsOf, List.mem_map] at hv
      obtain ⟨x, _, rfl⟩ := hv
      rfl)
    rw [cellsOf_len, hM] at hrun
    unfold Oper.wp
    simp [execOp, ho, resolve, invoke, builtin, hd, hs, hrun, Result.andThen]
    refine h _ (show _ = _ from ?_) (below_setRow (Below.refl _ _) (Nat.le_refl _) _) (fun k hk => setRow_other w g k _ hk)
    rw [setRow_heap w g _ _ t _ hg, ← cellsOf_splice]
    simp [splice, cellsOf_len, hM]

theorem BufB.spliced {w w' : World} {pb ab : Nat} {L M : List Int} {fr to off : Nat} (h : BufB w pb ab L fr to) (hfit : off + M.length ≤ L.length) (hM : ∀ x ∈ M, i32 x)
    (hg : w'.heap[ab]? = some (.cells (cellsOf (splice L off M)).toArray 21 (0, 0))) (ho : ∀ k, k ≠ ab → w'.heap[k]? = w.heap[k]?) : BufB w' pb ab (splice L off M) fr to :=
  ⟨by rw [ho pb h.ne, h.hp, splice_len L M off hfit], hg, fun x hx => (splice_mem hx).elim (h.ok x) (hM x), h.le, by rw [splice_len L M off hfit]; exact h.le', by rw [splice_len L M off hfit]; exact h.max⟩
theorem Runes.ok {w : World} {A : Option Addr} {n c : Nat} {l : List Int} (s : Runes w A n c l) : ∀ x ∈ l, i32 x := fun x hx => by
  obtain ⟨k, hk, e⟩ := List.getElem_of_mem hx
  obtain ⟨_, _, _, _, _, hb⟩ := SlR.rune s (k := k) (x := x) (by rw [List.getElem?_eq_getElem hk, e])
  exact hb

set_option maxHeartbeats 1000000 in
theorem New_any {w : World} {A : Option Addr} {n c : Nat} {l : List Int} (s : Runes w A n c l) (hn : n ≤ 4000) :
    Calls Try.prog 8 #[.slice A n c] w fun e w' => ∃ pb, e = .returned (.pointer (some ⟨pb, 0, none⟩)) ∧ Ext w w' ∧ Buf w.heap.size w' pb l 0 := by
  have hl := s.len
  have hmk := make_runes (n + 16) (by omega)
  rw [show ((n + 16 : Nat) : Int) = (n : Int) + 16 by omega] at hmk
  have hcut : ∀ W, (Instr.sliceAt 22 (.slice (some ⟨w.heap.size, 0, none⟩) (n + 16) (n + 16)) (some (.int .i64 16)) none none).run Try.prog W = .ok (.slice (cutA (some ⟨w.heap.size, 0, none⟩) (n + 16) 16 1) n n) W := fun W => run_cut_l tRunes _ (n + 16) (n + 16) 16 16 rfl (by omega) W
  have hA : 0 < n → cutA (some ⟨w.heap.size, 0, none⟩) (n + 16) 16 1 = some ⟨w.heap.size, 16, none⟩ := fun h0 => by unfold cutA; rw [if_neg (by omega)]; simp [addr_add]
  go_enter Try.func8, Try.ntmps8
  go_wp2
  rw [show ((n : Int) + 16 - (n : Int)) = 16 by omega]
  have hb : BufB ((w.alloc (Obj.cells (cellsOf (List.replicate (n + 16) 0)).toArray 21)).alloc (Obj.cells #[Value.slice (some { block := w.heap.size, off := 0 }) (n + 16) (n + 16), Value.int IntKind.i64 0, Value.int IntKind.i64 16] 43)) (w.heap.size + 1) w.heap.size (List.replicate (n + 16) 0) 0 16 := by
    refine ⟨?_, ?_, ?_, by omega, by simp, by simp; omega⟩
    · have := heap_alloc_new (w.alloc (Obj.cells (cellsOf (List.replicate (n + 16) 0)).toArray 21)) (Obj.cells #[Value.slice (some { block := w.heap.size, off := 0 }) (n + 16) (n + 16), Value.int IntKind.i64 0, Value.int IntKind.i64 16] 43)
      rw [World.size_alloc] at this
      simpa using this
    · have h1 := heap_alloc_new w (Obj.cells (cellsOf (List.replicate (n + 16) 0)).toArray 21)
      have h2 := (Ext.refl (w.alloc (Obj.cells (cellsOf (List.replicate (n + 16) 0)).toArray 21))).alloc (Obj.cells #[Value.slice (some { block := w.heap.size, off := 0 }) (n + 16) (n + 16), Value.int IntKind.i64 0, Value.int IntKind.i64 16] 43)
      rw [h2.block (by simp)]
      exact h1
    · intro x hx
      rw [List.eq_of_mem_replicate hx]; unfold i32; omega
  have he := ((Ext.refl w).alloc (Obj.cells (cellsOf (List.replicate (n + 16) 0)).toArray 21)).alloc (Obj.cells #[Value.slice (some { block := w.heap.size, off := 0 }) (n + 16) (n + 16), Value.int IntKind.i64 0, Value.int IntKind.i64 16] 43)
  generalize (w.alloc (Obj.cells (cellsOf (List.replicate (n + 16) 0)).toArray 21)).alloc (Obj.cells #[Value.slice (some { block := w.heap.size, off := 0 }) (n + 16) (n + 16), Value.int IntKind.i64 0, Value.int IntKind.i64 16] 43) = w2 at *
  have s2 := s.ext he
  have h0 := hb.c0; have h2 := hb.c2
  have d := (Ext.refl w2).drew
  have HB := Lib.hid (hb.ext d); have S2 := Lib.hid (s2.ext d); have HE := Lib.hid (he.trans d)
  simp only [List.length_replicate] at h0
  clear hb s2 he s hmk d
  go_region_law (refine step_copyR rfl (.tmp 29) (.tmp 30) _ _ rfl _ Try.underlying22 sizeRune _ _ _ _ _ _ rfl rfl S2.out (Nat.le_refl _) w.heap.size 16 (List.replicate (n + 16) 0) _ HB.out.ha hA (by simp; omega) ?_; intro w4 hg4 hb4 ho4)
  all_goals
    have hb5 := HB.out.spliced (M := l) (off := 16) (by simp; omega) (Runes.ok S2.out) hg4.out ho4.out
    have B5 := Lib.hid hb5; clear hb5 HB hg4 ho4 h0 h2 hcut
    go_wp2
    go_ret
    refine ⟨w.heap.size + 1, rfl, Below.trans HE.out hb4, _, _, 16, B5.out, by omega, Nat.le_refl _, ?_⟩
    simp [splice]; omega

end Go.Proofs.Ytpnflnocmekpnaa
