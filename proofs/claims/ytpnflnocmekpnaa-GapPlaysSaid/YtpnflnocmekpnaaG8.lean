/- What Play computes; edits in memory. No program in sight, but the types' numbers. -/
import Derived.Test.YtpnflnocmekpnaaG7
namespace Go.Proofs.Ytpnflnocmekpnaa
open Go.ChangeShapes Go.WideShapes Go.ChangeAt Go.RowKit Go.Deep
set_option linter.unusedVariables false
set_option linter.unusedSimpArgs false

structure Ed where
  kind : Int
  num : Int
  put : List Int
instance : Inhabited Ed := ⟨⟨0, 0, []⟩⟩
def rEdit (ok : Nat → Prop) : World → List Value → Ed → Prop := fun w vs e => ∃ A n c, vs = [.int .i64 e.kind, .int .i64 e.num, .slice A n c] ∧ SlR rRune 1 ok w A n c e.put ∧ i64 e.kind ∧ i64 e.num ∧ n ≤ 35184372087808
theorem keep_edit (ok : Nat → Prop) : Keep (rEdit ok) ok := fun w w' vs e ha ⟨A, n, c, h1, h2, h3⟩ => ⟨A, n, c, h1, h2.keep (keep_rune _) ha, h3⟩
abbrev Edits (w : World) (A : Option Addr) (n c : Nat) (l : List Ed) : Prop := SlR (rEdit top) 3 top w A n c l
theorem edits_lt {w : World} {A : Option Addr} {n c : Nat} {l : List Ed} (h : Edits w A n c l) : SlR (rEdit (fun b => b < w.heap.size)) 3 (fun b => b < w.heap.size) w A n c l :=
  (SlR.lt (by omega) h).mono (fun vs x ⟨A', n', c', e, hs, h3⟩ => ⟨A', n', c', e, (SlR.lt (by omega) hs).mono (fun _ _ h => h) (fun _ h => h.2), h3⟩) (fun _ h => h.2)
theorem SlR.edit {w : World} {A : Option Addr} {n c k : Nat} {ok ok' : Nat → Prop} {l : List Ed} {x : Ed} (h : SlR (rEdit ok') 3 ok w A n c l) (hx : l[k]? = some x) :
    ∃ b off A' n' c', A = some ⟨b, off, none⟩ ∧ (b < w.heap.size ∧ b ≠ w.heap.size) ∧ w.cell? ⟨b, off + k * 3, none⟩ = some (.int .i64 x.kind) ∧ w.cell? ⟨b, off + k * 3 + 1, none⟩ = some (.int .i64 x.num) ∧
      w.cell? ⟨b, off + k * 3 + 2, none⟩ = some (.slice A' n' c') ∧ SlR rRune 1 ok' w A' n' c' x.put ∧ i64 x.kind ∧ i64 x.num ∧ n' ≤ 35184372087808 := by
  obtain ⟨b, off, vs, e, ho, _, ⟨A', n', c', rfl, hs, h3, h4⟩, hc⟩ := h.at_ k x hx
  have h0 := hc 0 _ rfl
  have hlt : b < w.heap.size := World.block_lt_of_cell? w _ h0
  exact ⟨b, off, A', n', c', e, ⟨hlt, by omega⟩, by simpa using h0, by simpa using hc 1 _ rfl, by simpa using hc 2 _ rfl, hs, h3, h4⟩

def gapBad (t : List Int) (a : Nat) (e : Ed) : Int :=
  if e.kind < 1 ∨ 4 < e.kind then 1
  else if e.kind = 2 then (if 4000 < t.length + e.put.length then 4 else 0)
  else if e.num < 0 ∨ (e.kind = 1 ∧ (t.length : Int) < e.num) ∨ (e.kind = 3 ∧ ((t.length - a : Nat) : Int) < e.num) ∨ (e.kind = 4 ∧ (a : Int) < e.num) then 3 else 0
def gapDo (t : List Int) (a : Nat) (e : Ed) : List Int × Nat :=
  if e.kind = 1 then (t, e.num.toNat)
  else if e.kind = 2 then (t.take a ++ e.put ++ t.drop a, a + e.put.length)
  else if e.kind = 3 then (t.take a ++ t.drop (a + e.num.toNat), a)
  else (t.take (a - e.num.toNat) ++ t.drop a, a - e.num.toNat)
theorem gapBad_eq (t : List Int) (a : Nat) (kd nu : Int) (pu : List Int) : gapBad t a ⟨kd, nu, pu⟩ =
  if kd < 1 ∨ 4 < kd then 1 else if kd = 2 then (if 4000 < t.length + pu.length then 4 else 0)
  else if nu < 0 ∨ (kd = 1 ∧ (t.length : Int) < nu) ∨ (kd = 3 ∧ ((t.length - a : Nat) : Int) < nu) ∨ (kd = 4 ∧ (a : Int) < nu) then 3 else 0 := rfl
theorem gapDo_eq (t : List Int) (a : Nat) (kd nu : Int) (pu : List Int) : gapDo t a ⟨kd, nu, pu⟩ =
  if kd = 1 then (t, nu.toNat) else if kd = 2 then (t.take a ++ pu ++ t.drop a, a + pu.length)
  else if kd = 3 then (t.take a ++ t.drop (a + nu.toNat), a) else (t.take (a - nu.toNat) ++ t.drop a, a - nu.toNat) := rfl
structure GapR where
  text : List Int
  at_ : Int
  err : Int
  place : Int
def gapGo (k : Nat) (t : List Int) (a : Nat) : List Ed → GapR
  | [] => ⟨t, a, 0, 0⟩
  | e :: l => if gapBad t a e = 0 then gapGo (k + 1) (gapDo t a e).1 (gapDo t a e).2 l else ⟨[], 0, gapBad t a e, k⟩
def gapPlay (t : List Int) (l : List Ed) : GapR := if 4000 < t.length then ⟨[], 0, 4, 0⟩ else gapGo 0 t 0 l
theorem gapGo_bad {k : Nat} {t : List Int} {a : Nat} {l : List Ed} {e : Ed} (h : l[k]? = some e) {b : Int} (hb : gapBad t a e = b) (h0 : b ≠ 0) : gapGo k t a (l.drop k) = ⟨[], 0, b, k⟩ := by
  rw [List.drop_eq_getElem_cons (lt_of_get h), show l[k]'(lt_of_get h) = e from (List.getElem?_eq_some_iff.1 h).2, gapGo, hb, if_neg h0]
theorem gapGo_on {k : Nat} {t t' : List Int} {a a' : Nat} {l : List Ed} {e : Ed} (h : l[k]? = some e) (hb : gapBad t a e = 0) (hd : gapDo t a e = (t', a')) : gapGo k t a (l.drop k) = gapGo (k + 1) t' a' (l.drop (k + 1)) := by
  rw [List.drop_eq_getElem_cons (lt_of_get h), show l[k]'(lt_of_get h) = e from (List.getElem?_eq_some_iff.1 h).2, gapGo, hb, if_pos rfl, hd]
theorem gapGo_end {k : Nat} {t : List Int} {a : Nat} {l : List Ed} (h : l.length ≤ k) : gapGo k t a (l.drop k) = ⟨t, a, 0, 0⟩ := by
  rw [List.drop_of_length_le h]; rfl

/-- what both sides hand back -/
def GapV (w : World) (r : GapR) (e : Ending) : Prop := ∃ A c, e = .returned (.tuple #[.slice A r.text.length c, .int .i64 r.at_, .agg #[.int .i64 r.err, .int .i64 r.place]]) ∧ Runes w A r.text.length c r.text

theorem Buf.ext {base : Nat} {w w' : World} {pb a : Nat} {t : List Int} (h : Buf base w pb t a) (e : Ext w w') : Buf base w' pb t a := by
  obtain ⟨ab, L, tz, hb, r⟩ := h
  exact ⟨ab, L, tz, hb.ext e, r⟩
theorem overIntR {ok : Nat → Prop} {w : World} {A : Option Addr} {n c : Nat} {l : List Int} {B o : Nat} {v : Int} {u : Value} (h : SlR rRune 1 ok w A n c l) (hc : w.cell? ⟨B, o, none⟩ = some (.int .i64 v)) :
    SlR rRune 1 ok (w.setCell ⟨B, o, none⟩ u) A n c l :=
  ⟨h.len, h.cap, h.max, fun k x hx => by
    obtain ⟨b, off, vs, e, ho, hl, hr, hcs⟩ := h.at_ k x hx
    refine ⟨b, off, vs, e, ho, hl, hr, fun j y hy => ?_⟩
    have h1 := hcs j y hy
    rw [World.cell?_setCell_other]
    · exact h1
    · intro e2
      rw [e2, h1] at hc
      obtain ⟨rfl, _⟩ := hr
      match j, hy with
      | 0, hy => simp at hy; subst hy; simp at hc⟩
/-- the fault's two cells, written -/
theorem fault_set {w : World} {B : Nat} {u v : Int} (f0 : w.cell? ⟨B, 0, none⟩ = some (.int .i64 0)) (f1 : w.cell? ⟨B, 1, none⟩ = some (.int .i64 0)) :
    ((w.setCell ⟨B, 0, none⟩ (.int .i64 u)).setCell ⟨B, 1, none⟩ (.int .i64 v)).cell? ⟨B, 0, none⟩ = some (.int .i64 u) ∧
    ((w.setCell ⟨B, 0, none⟩ (.int .i64 u)).setCell ⟨B, 1, none⟩ (.int .i64 v)).cell? ⟨B, 1, none⟩ = some (.int .i64 v) := by
  have g1 : (w.setCell ⟨B, 0, none⟩ (.int .i64 u)).cell? ⟨B, 1, none⟩ = some (.int .i64 0) := by
    rw [World.cell?_setCell_other _ _ _ _ (by simp)]; exact f1
  exact ⟨by rw [World.cell?_setCell_other _ _ _ _ (by simp)]; exact World.cell?_setCell_same _ _ _ f0, World.cell?_setCell_same _ _ _ g1⟩
theorem play_fin {w0 w : World} {B : Nat} {r : GapR} (hB : w0.heap.size ≤ B) (hx : Ext w0 w) (f0 : w.cell? ⟨B, 0, none⟩ = some (.int .i64 0)) (f1 : w.cell? ⟨B, 1, none⟩ = some (.int .i64 0)) {A : Option Addr} {c n : Nat}
    (hn : r.text.length = n) (hs : Runes w A n c r.text) {a u v : Int} (ha : r.at_ = a) (hu : r.err = u) (hv : r.place = v) :
    GapV ((w.setCell ⟨B, 0, none⟩ (.int .i64 u)).setCell ⟨B, 1, none⟩ (.int .i64 v)) r (.returned (.tuple #[.slice A n c, .int .i64 a, .agg #[.int .i64 u, .int .i64 v]])) ∧ Ext w0 ((w.setCell ⟨B, 0, none⟩ (.int .i64 u)).setCell ⟨B, 1, none⟩ (.int .i64 v)) := by
  subst hn; subst ha; subst hu; subst hv
  have g1 : (w.setCell ⟨B, 0, none⟩ (.int .i64 r.err)).cell? ⟨B, 1, none⟩ = some (.int .i64 0) := by
    rw [World.cell?_setCell_other _ _ _ _ (by simp)]; exact f1
  exact ⟨⟨A, c, rfl, overIntR (overIntR hs f0) g1⟩, (hx.setCell (p := ⟨B, 0, none⟩) hB _).setCell (p := ⟨B, 1, none⟩) hB _⟩

end Go.Proofs.Ytpnflnocmekpnaa
