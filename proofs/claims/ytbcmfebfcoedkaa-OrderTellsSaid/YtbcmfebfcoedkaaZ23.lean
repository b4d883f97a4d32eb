/- Plain: letters and marks put together. No program in sight, but for what a row's cells and two maps hold. -/
import Derived.Test.YtbcmfebfcoedkaaZ22
namespace Go.Proofs.Ytbcmfebfcoedkaa
open Go.RowKit Go.Sort
set_option linter.unusedVariables false
set_option linter.unusedSimpArgs false

/-- what has been put together: what is behind; the letter that marks may go to; marks that did not go; the class of the last of these -/
structure Tg where
  pre : List Int
  hd : Option Int
  left : List Int
  last : Int
def Tg.flat (s : Tg) : List Int := s.pre ++ s.hd.toList ++ s.left
def Tg.baseI (s : Tg) : Int := match s.hd with | some _ => (s.pre.length : Int) | none => -1
def tpush (s : Tg) (r : Int) : Tg := if clsOf r = 0 then ⟨s.flat, some r, [], 0⟩ else ⟨s.pre, s.hd, s.left ++ [r], clsOf r⟩
def tstep (s : Tg) (r : Int) : Tg :=
  match s.hd with
  | none => tpush s r
  | some h => if s.last < clsOf r then (match fj h r with | some p => ⟨s.pre, some p.whole, s.left, s.last⟩ | none => tpush s r) else tpush s r
def tgo (l : List Int) : Tg := l.foldl tstep ⟨[], none, [], 0⟩
def togL (l : List Int) : List Int := (tgo l).flat
def togV (l : List Int) : List Int := togL (apartV l)
theorem tgo_snoc {l : List Int} {k : Nat} {x : Int} (h : l[k]? = some x) : tgo (l.take (k + 1)) = tstep (tgo (l.take k)) x := by
  rw [take_snoc h]; unfold tgo; rw [List.foldl_append]; rfl
theorem tpush_flat (s : Tg) (r : Int) : (tpush s r).flat = s.flat ++ [r] := by
  unfold tpush
  by_cases h : clsOf r = 0
  · rw [if_pos h]; simp [Tg.flat]
  · rw [if_neg h]; simp [Tg.flat]
theorem tpush_last (s : Tg) (r : Int) : (tpush s r).last = clsOf r := by
  unfold tpush
  by_cases h : clsOf r = 0
  · rw [if_pos h, h]
  · rw [if_neg h]
theorem tpush_base0 {s : Tg} {r : Int} (h : clsOf r = 0) : (tpush s r).baseI = (s.flat.length : Int) := by unfold tpush; rw [if_pos h]; rfl
theorem tpush_base1 {s : Tg} {r : Int} (h : ¬ clsOf r = 0) : (tpush s r).baseI = s.baseI := by unfold tpush; rw [if_neg h]; rfl
theorem tstep_none {s : Tg} {r : Int} (h : s.hd = none) : tstep s r = tpush s r := by unfold tstep; rw [h]
theorem tstep_no {s : Tg} {r h : Int} (hh : s.hd = some h) (hl : ¬ s.last < clsOf r) : tstep s r = tpush s r := by unfold tstep; rw [hh]; simp only; rw [if_neg hl]
theorem tstep_out {s : Tg} {r h : Int} (hh : s.hd = some h) (hl : s.last < clsOf r) (hf : fj h r = none) : tstep s r = tpush s r := by unfold tstep; rw [hh]; simp only; rw [if_pos hl, hf]
theorem tstep_join {s : Tg} {r h : Int} {p : Pr} (hh : s.hd = some h) (hl : s.last < clsOf r) (hf : fj h r = some p) : tstep s r = ⟨s.pre, some p.whole, s.left, s.last⟩ := by unfold tstep; rw [hh]; simp only; rw [if_pos hl, hf]
theorem flat_some {s : Tg} {h : Int} (hh : s.hd = some h) : s.flat = s.pre ++ h :: s.left := by unfold Tg.flat; rw [hh]; simp
theorem base_some {s : Tg} {h : Int} (hh : s.hd = some h) : s.baseI = (s.pre.length : Int) := by unfold Tg.baseI; rw [hh]
theorem base_none {s : Tg} (hh : s.hd = none) : s.baseI = -1 := by unfold Tg.baseI; rw [hh]
theorem flat_join {s : Tg} {h w : Int} (hh : s.hd = some h) : (⟨s.pre, some w, s.left, s.last⟩ : Tg).flat = s.flat.set s.pre.length w := by
  rw [flat_some hh, set_at rfl]
  simp [Tg.flat]
theorem tstep_len (s : Tg) (r : Int) : (tstep s r).flat.length ≤ s.flat.length + 1 := by
  have hp : (tpush s r).flat.length ≤ s.flat.length + 1 := by rw [tpush_flat]; simp
  cases hh : s.hd with
  | none => rw [tstep_none hh]; exact hp
  | some h =>
    by_cases hl : s.last < clsOf r
    · cases hf : fj h r with
      | none => rw [tstep_out hh hl hf]; exact hp
      | some p => rw [tstep_join hh hl hf, flat_join hh]; simp
    · rw [tstep_no hh hl]; exact hp
theorem tgo_len (l : List Int) : (tgo l).flat.length ≤ l.length := by
  induction hn : l.length generalizing l with
  | zero => rw [List.eq_nil_of_length_eq_zero hn]; simp [tgo, Tg.flat]
  | succ n ih =>
    have hx : l[n]? = some (l[n]'(by omega)) := List.getElem?_eq_getElem _
    have e : l.take (n + 1) = l := List.take_of_length_le (by omega)
    have := tgo_snoc hx
    rw [e] at this
    rw [this]
    have h1 := tstep_len (tgo (l.take n)) (l[n]'(by omega))
    have h2 := ih (l.take n) (by simp; omega)
    omega

theorem look2_none {w : World} {b : Nat} {x y : Int} (h : MapAt w b (kvT pairsL)) (hx : i32 x) (hy : i32 y) (hf : fj x y = none) :
    (Instr.lookup 55 (.map (some b)) (.agg #[.int .i32 x, .int .i32 y]) true).run Try.prog w = .ok (.tuple #[.int .i32 0, .bool false]) w := by
  rcases h.look lawT Try.underlying55 (z := .int .i32 0) (fun w => by kernel_rfl) (keysT fun _ h => h) (keyT hx hy) with ⟨_, h2⟩ | ⟨p, hp, h1, h2⟩
  · exact h2
  · obtain ⟨q, hq, rfl⟩ := List.mem_map.1 hp
    have e : q.base = x ∧ q.mark = y := by simpa using h1
    have := fj_of hq
    rw [e.1, e.2, hf] at this
    cases this
theorem look2_some {w : World} {b : Nat} {x y : Int} {p : Pr} (h : MapAt w b (kvT pairsL)) (hx : i32 x) (hy : i32 y) (hf : fj x y = some p) :
    (Instr.lookup 55 (.map (some b)) (.agg #[.int .i32 x, .int .i32 y]) true).run Try.prog w = .ok (.tuple #[.int .i32 p.whole, .bool true]) w := by
  rcases h.look lawT Try.underlying55 (z := .int .i32 0) (fun w => by kernel_rfl) (keysT fun _ h => h) (keyT hx hy) with ⟨h1, _⟩ | ⟨q', hp, h1, h2⟩
  · obtain ⟨hm, e1, e2⟩ := fj_mem hf
    exact absurd (by rw [e1, e2]) (h1 _ (List.mem_map.2 ⟨p, hm, rfl⟩))
  · obtain ⟨q, hq, rfl⟩ := List.mem_map.1 hp
    have e : q.base = x ∧ q.mark = y := by simpa using h1
    have := fj_of hq
    rw [e.1, e.2, hf] at this
    rw [Option.some.inj this]
    exact h2

/-- a store into a row of the call's own -/
theorem own_set {e : TypeId} {base : Nat} {w : World} {g cap i : Nat} {l : List Int} {x : Int} (h : OwnR rRune e 1 base w (.slice (some ⟨g, 0, none⟩) l.length cap) l) (hi : i < l.length) (hx : i32 x) :
    OwnR rRune e 1 base (w.setCell ⟨g, i, none⟩ (.int .i32 x)) (.slice (some ⟨g, 0, none⟩) l.length cap) (l.set i x) ∧ w.frozen? ⟨g, i, none⟩ = false ∧ base ≤ g := by
  rcases own_holds h with ⟨hn, hv⟩ | ⟨g', cap', hv, hb, hlt, hh, _, _⟩
  · cases hv
  · injection hv with e1 e2 e3
    injection e1 with e1
    injection e1 with e1
    subst e1
    have hf := (hh i (by simpa using hi)).2
    rw [Nat.zero_add] at hf
    have hp := putRow_set (Value.int .i32) w g 0 l.toArray i x (by simpa using hi)
    rw [putRow_self _ _ _ _ _ hh, Nat.zero_add] at hp
    have hs : l.toArray.setIfInBounds i x = (l.set i x).toArray := by simp
    rw [hs] at hp
    refine ⟨?_, hf, hb⟩
    refine holds_own h rfl (by simp) (fun r hr => ?_) (by rw [hp]; exact Ext.refl _)
    obtain ⟨A, c, e4, hs4⟩ := h.top
    rcases List.mem_or_eq_of_mem_set hr with hr | hr
    · exact Runes.i32 hs4 r hr
    · rw [hr]; exact hx

end Go.Proofs.Ytbcmfebfcoedkaa
