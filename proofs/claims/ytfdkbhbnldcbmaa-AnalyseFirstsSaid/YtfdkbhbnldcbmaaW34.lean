/- Walks: spans are sorted; the set of some spans. -/
import Derived.Test.YtfdkbhbnldcbmaaSort
import Derived.Test.YtfdkbhbnldcbmaaW32
namespace Go.Proofs.Ytfdkbhbnldcbmaa
open Go.RowKit Go.Shelf Go.Lib Go.Sort
set_option linter.unusedVariables false
set_option linter.unusedSimpArgs false

def cmpI (a b : Int) : Int := if a < b then -1 else if b < a then 1 else 0
theorem isNaN_any (x : Int) (w : World) : Calls Try.prog 148 #[.int .i32 x] w fun e w' => e = .returned (.bool false) ∧ w = w' := by
  go_enter Try.func148, Try.ntmps148
  go_wp2
  go_ret
  exact ⟨by simp, rfl⟩
theorem Compare_any (x y : Int) (w : World) : Calls Try.prog 119 #[.int .i32 x, .int .i32 y] w fun e w' => e = .returned (.int .i64 (cmpI x y)) ∧ w = w' := by
  have HC := Lib.hid (fun x W => isNaN_any x W)
  by_cases h1 : x < y
  · have b1 : decide (x < y) = true := by simpa using h1
    have H : Hid (cmpI x y = -1) := Lib.hid (by unfold cmpI; rw [if_pos h1])
    clear h1
    go_enter Try.func119, Try.ntmps119
    go_wp2_with (go_at_call 148; refine (HC.out _ _).mono ?_; rintro e w' ⟨rfl, rfl⟩)
    go_ret
    rw [H.out]; exact ⟨rfl, rfl⟩
  · have b1 : decide (x < y) = false := by simpa using h1
    by_cases h2 : y < x
    · have b2 : decide (y < x) = true := by simpa using h2
      have H : Hid (cmpI x y = 1) := Lib.hid (by unfold cmpI; rw [if_neg h1, if_pos h2])
      clear h1 h2
      go_enter Try.func119, Try.ntmps119
      go_wp2_with (go_at_call 148; refine (HC.out _ _).mono ?_; rintro e w' ⟨rfl, rfl⟩)
      go_ret
      rw [H.out]; exact ⟨rfl, rfl⟩
    · have b2 : decide (y < x) = false := by simpa using h2
      have H : Hid (cmpI x y = 0) := Lib.hid (by unfold cmpI; rw [if_neg h1, if_neg h2])
      clear h1 h2
      go_enter Try.func119, Try.ntmps119
      go_wp2_with (go_at_call 148; refine (HC.out _ _).mono ?_; rintro e w' ⟨rfl, rfl⟩)
      go_ret
      rw [H.out]; exact ⟨rfl, rfl⟩

def encSp (x : Sp) : List Value := [.int .i32 x.lo, .int .i32 x.hi]
theorem ofLess_any (x y : Sp) (W : World) : Calls Try.prog 118 #[.agg #[.int .i32 x.lo, .int .i32 x.hi], .agg #[.int .i32 y.lo, .int .i32 y.hi]] W fun e w' => e = .returned (.int .i64 (cmpI x.lo y.lo)) ∧ ∃ q os', w' = grow (W.drewN q) os' := by
  have hcon := Lib.hid (fun W' => Compare_any x.lo y.lo W')
  generalize cmpI x.lo y.lo = r at *
  go_enter Try.func118, Try.ntmps118
  go_wp2_with (go_at_call 119; refine (hcon.out _).mono ?_; rintro e w' ⟨rfl, rfl⟩)
  go_ret
  exact ⟨rfl, 0, _, by rw [alloc_eq_grow, alloc_eq_grow, grow_grow]; rfl⟩

theorem ltSp (x y : Sp) : ltOf (fun x y : Sp => cmpI x.lo y.lo) x y = decide (x.lo < y.lo) := by
  unfold ltOf cmpI
  by_cases h1 : x.lo < y.lo
  · simp [h1]
  · by_cases h2 : y.lo < x.lo <;> simp [h1, h2]
theorem swoSp : SWO (ltOf fun x y : Sp => cmpI x.lo y.lo) where
  irrefl x := by rw [ltSp]; simp
  trans x y z h1 h2 := by rw [ltSp] at *; simp at *; omega
  ntrans x y z h1 h2 := by rw [ltSp] at *; simp at *; omega

theorem grown_sort (enc : Sp → List Value) (k : Nat) (w : World) (blk off n : Nat) (d : Array Sp) (os : Array Obj) : w.grownBy (sortWorldK enc k w blk off n d os) (some blk) := by
  unfold sortWorldK putRowK putRow mapBlock grow Sort.ahead
  refine ⟨rfl, rfl, rfl, ?_, fun b hb hne => ?_⟩
  · simp
  · simp only []
    rw [Array.getElem?_append_left (by simpa using hb), Array.getElem?_modify, if_neg (fun e => hne (by rw [e]))]

set_option maxHeartbeats 1000000 in
theorem SortSp_any (g n c : Nat) (l : List Sp) (w a : World) {ok : Nat → Prop} (h : SlR rSpan 2 ok w (some ⟨g, 0, none⟩) n c l) (hf : ∀ i, w.frozen? ⟨g, i, none⟩ = false) (hlt : g < w.heap.size) (ha : Ext a w) (hg : a.heap.size ≤ g) (hn : n < 4611686018427387904) :
    Calls Try.prog 117 #[.slice (some ⟨g, 0, none⟩) n c, .func (.func 118) #[] #[]] w
      fun e w' => e = .returned (.tuple #[]) ∧ (∃ s : List Sp, s.Perm l ∧ s.Pairwise (fun a b => a.lo ≤ b.lo) ∧ Spans w' (some ⟨g, 0, none⟩) n c s) ∧ Ext a w' := by
  have hsz : l.toArray.size = n := by simpa using h.len
  have hcell : ∀ i x, l[i]? = some x → w.cell? ⟨g, i * 2, none⟩ = some (.int .i32 x.lo) ∧ w.cell? ⟨g, i * 2 + 1, none⟩ = some (.int .i32 x.hi) ∧ i32 x.lo ∧ i32 x.hi := fun i x hx => by
    obtain ⟨b, off, vs, e, _, _, ⟨rfl, k1, k2⟩, hc⟩ := h.at_ i x hx
    cases e
    have h0 := hc 0 _ rfl
    have h1 := hc 1 _ rfl
    simp only [Nat.zero_add, Nat.add_zero] at h0 h1
    exact ⟨h0, h1, k1, k2⟩
  have hH : HoldsK encSp 2 w g 0 l.toArray := by
    intro j hj
    rw [size_flatK, hsz] at hj
    refine ⟨?_, hf _⟩
    rw [get_flatK _ _ _ _ (by rw [hsz]; exact hj), Nat.zero_add]
    have hjn : j / 2 < n := by omega
    obtain ⟨x, hx⟩ := h.idx hjn
    have e1 : l.toArray[j / 2]! = x := by simp [hx]
    rw [e1]
    obtain ⟨h0, h1, _⟩ := hcell _ x hx
    rcases Nat.mod_two_eq_zero_or_one j with e | e
    · rw [e, show j = j / 2 * 2 by omega]; simpa [encSp] using h0
    · rw [e]; conv => lhs; rw [show j = j / 2 * 2 + 1 by omega]
      simpa [encSp] using h1
  have eg : ∀ args w, (callFunc 118 args).run Try.prog w = .ok (.enter 118 args) w := enters Try.func118 (by kernel_rfl) rfl
  have hcon := AnyQ.slices_SortFunc sortSp 2 Try.isAgg80 Try.sizeOf80 encSp (fun _ => rfl) (fun x v hv => by simp [encSp] at hv; rcases hv with rfl | rfl <;> rfl) (fun x y => cmpI x.lo y.lo) swoSp 118 #[] g 0 c l.toArray w eg
    (fun _ _ _ _ x y => ofLess_any x y _) hH hlt (by rw [hsz]; exact hn)
  rw [hsz] at hcon
  refine hcon.mono ?_
  rintro e w' ⟨he, d', q, os, hp, hs, rfl⟩
  obtain ⟨p1, _, p3⟩ := hp
  rw [hsz] at p1
  have hperm : d'.toList.Perm l := by
    have e1 : (d'.extract 0 n).toList = d'.toList := by rw [show n = d'.size from p1.symm]; simp
    have e2 : (l.toArray.extract 0 n).toList = l := by rw [show n = l.toArray.size from hsz.symm]; simp
    rw [e1, e2] at p3; exact p3
  have hH' : HoldsK encSp 2 (sortWorldK encSp 2 w g 0 q d' os) g 0 d' := by
    unfold sortWorldK
    refine holdsK_grow _ _ _ os g 0 d' ?_ (holdsK_putRowK _ _ (Sort.ahead w q) g 0 l.toArray d' (holdsK_ahead _ _ w q g 0 _ hH) (by rw [p1, hsz]))
    unfold putRowK putRow mapBlock Sort.ahead
    simpa using hlt
  refine ⟨he, ⟨d'.toList, hperm, ?_, by simpa using p1, h.cap, h.max, fun i x hx => ?_⟩, ha.grown (grown_sort _ _ _ _ _ _ _ _) (fun k hk => by cases hk; exact hg)⟩
  · rw [List.pairwise_iff_getElem]
    intro i j hi hj hij
    have := hs i j (Nat.zero_le _) hij (by simpa [p1] using hj)
    rw [ltSp] at this
    have e1 : d'[i]! = d'.toList[i] := by rw [getElem!_pos d' i (by simpa using hi)]; rfl
    have e2 : d'[j]! = d'.toList[j] := by rw [getElem!_pos d' j (by simpa using hj)]; rfl
    rw [e1, e2] at this
    simpa using this
  · have hi : i < d'.size := by have := lt_of_get hx; simpa using this
    have hxm := hperm.mem_iff.1 (List.mem_of_getElem? hx)
    obtain ⟨i0, hi0⟩ := List.getElem?_of_mem hxm
    obtain ⟨_, _, b1, b2⟩ := hcell i0 x hi0
    have e1 : d'[i]! = x := by
      obtain ⟨hil, hxe⟩ := List.getElem?_eq_some_iff.1 hx
      rw [getElem!_pos d' i hi, ← hxe]; rfl
    refine ⟨g, 0, encSp x, rfl, trivial, rfl, ⟨rfl, b1, b2⟩, fun j u hu => ?_⟩
    have hj : j < 2 := by have := lt_of_get hu; simpa [encSp] using this
    have := (HoldsK.cell hH' hi hj).1
    rw [e1] at this
    rw [this]
    rw [List.getElem!_eq_getElem?_getD, hu]; rfl

end Go.Proofs.Ytfdkbhbnldcbmaa
