/- Plain: the runes of a small set one by one; what rules make of each, and whether others undo it. No program in sight. -/
import Derived.Test.YtfdkbhbnldcbmaaPl9
import Derived.Test.YtfdkbhbnldcbmaaW32
namespace Go.Proofs.Ytfdkbhbnldcbmaa
set_option linter.unusedVariables false
set_option linter.unusedSimpArgs false

/-! ### runes one by one -/
def unitsSp (x : Sp) : List Int := (List.range (x.hi - x.lo + 1).toNat).map fun (i : Nat) => x.lo + (i : Int)
def unitsL (d : List Sp) : List Int := d.flatMap unitsSp
theorem unitsL_cons (x : Sp) (d : List Sp) : unitsL (x :: d) = unitsSp x ++ unitsL d := by simp [unitsL]
theorem unitsL_snoc (x : Sp) (d : List Sp) : unitsL (d ++ [x]) = unitsL d ++ unitsSp x := by simp [unitsL]
theorem unitsSp_len {x : Sp} (h : okSp x) : ((unitsSp x).length : Int) = x.hi - x.lo + 1 := by
  obtain ⟨h1, h2, h3⟩ := h
  simp [unitsSp]; omega
theorem units_len : ∀ {d : List Sp}, (∀ x ∈ d, okSp x) → ((unitsL d).length : Int) = countL d
  | [], _ => by simp [unitsL, countL]
  | x :: d, h => by
    have h1 := unitsSp_len (h x (by simp))
    have h2 := units_len (d := d) (fun y hy => h y (by simp [hy]))
    rw [unitsL_cons, List.length_append, countL_cons, ← h2]
    omega
theorem units_nth : ∀ {d : List Sp} {k : Nat} {u : Int}, (∀ x ∈ d, okSp x) → (unitsL d)[k]? = some u → nthFrom d (k : Int) = (u, 0)
  | [], k, u, _, hu => by simp [unitsL] at hu
  | x :: d, k, u, h, hu => by
    have h1 := unitsSp_len (h x (by simp))
    rw [unitsL_cons] at hu
    by_cases hk : k < (unitsSp x).length
    · rw [List.getElem?_append_left hk] at hu
      rw [nthFrom_yes (by omega)]
      unfold unitsSp at hu
      simp only [List.getElem?_map, Option.map_eq_some_iff] at hu
      obtain ⟨i, hi, rfl⟩ := hu
      have := List.getElem?_eq_some_iff.1 hi
      obtain ⟨_, e⟩ := this
      simp at e; subst e; rfl
    · rw [List.getElem?_append_right (by omega)] at hu
      rw [nthFrom_no (by omega)]
      have := units_nth (d := d) (k := k - (unitsSp x).length) (fun y hy => h y (by simp [hy])) hu
      rw [← this]; congr 1; omega
theorem unitsSp_mem {x : Sp} (h : okSp x) (r : Int) : r ∈ unitsSp x ↔ inSp x r = true := by
  unfold unitsSp inSp
  simp only [List.mem_map, List.mem_range, Bool.and_eq_true, decide_eq_true_eq]
  constructor
  · rintro ⟨i, hi, rfl⟩; omega
  · rintro ⟨h1, h2⟩; exact ⟨(r - x.lo).toNat, by omega, by omega⟩
theorem units_mem {d : List Sp} (h : ∀ x ∈ d, okSp x) (r : Int) : r ∈ unitsL d ↔ has d r = true := by
  unfold unitsL has
  rw [List.mem_flatMap, List.any_eq_true]
  constructor
  · rintro ⟨x, hx, hr⟩; exact ⟨x, hx, (unitsSp_mem (h x hx) r).1 hr⟩
  · rintro ⟨x, hx, hr⟩; exact ⟨x, hx, (unitsSp_mem (h x hx) r).2 hr⟩
theorem units_rng {d : List Sp} (h : ∀ x ∈ d, okSp x) {r : Int} (hr : r ∈ unitsL d) : 0 ≤ r ∧ r ≤ 1114111 := by
  unfold unitsL at hr
  obtain ⟨x, hx, hm⟩ := List.mem_flatMap.1 hr
  have h1 := (unitsSp_mem (h x hx) r).1 hm
  obtain ⟨a, b, c⟩ := h x hx
  simp only [inSp, Bool.and_eq_true, decide_eq_true_eq] at h1
  omega

/-! ### rules that look at nothing around -/
def bareR (r : Rule) : Bool := !(r.start || r.fin || decide (0 < r.before.length + r.after.length))
def plainR (l : List Rule) : Bool := sureR l && l.all bareR
def canR (r : Rule) (us : List Int) : Bool := r.source.all fun s => us.any fun u => has s u
/-- a rule of more than one set can match -/
def blocked (l : List Rule) (us : List Int) : Bool := l.any fun r => decide (1 < r.source.length) && canR r us
/-- what comes of one rune -/
def imgOf (l : List Rule) (u : Int) : List Int := if first l [u] 0 < 0 then [u] else (l.getD (first l [u] 0).toNat default).target
def imgs (l : List Rule) (us : List Int) : List (List Int) := us.map (imgOf l)
/-- each has its image, and none is empty -/
def imgsOk (l : List Rule) (us : List Int) : Bool := us.all fun u => !(imgOf l u).isEmpty
/-- a unit is made of what begins a text, which is so long -/
def undoneB (b : List Rule) (t : List Int) (n : Nat) (u : Int) : Bool :=
  if first b t 0 < 0 then decide (n = 1) && decide (t.headD 0 = u)
  else decide ((b.getD (first b t 0).toNat default).source.length = n) && decide ((b.getD (first b t 0).toNat default).target = [u])
def innerB (b : List Rule) (reach : Nat) (t : List Int) (u : Int) (ts : List (List Int)) : Bool := ts.all fun v => decide (reach ≤ t.length + v.length) && undoneB b (t ++ v) t.length u
def outerB (b : List Rule) (reach : Nat) (ts : List (List Int)) (p : List Int × Int) : Bool := undoneB b p.1 p.1.length p.2 && innerB b reach p.1 p.2 ts
def pairB (f b : List Rule) (us : List Int) : Bool :=
  !(blocked f us) && imgsOk f us && ((imgs f us).zip us).all (outerB b (reachB b 0 0).2 (imgs f us))
/-- what Sure tells -/
def pairE (f b : List Rule) (d : List Sp) : Int :=
  if (wrongRules f).1 ≠ 0 then (wrongRules f).1 else if (wrongRules b).1 ≠ 0 then (wrongRules b).1 else if wrongSet d ≠ 0 then wrongSet d else if 40 < countL d then 4 else 0
def pairV (f b : List Rule) (d : List Sp) : Bool := decide (pairE f b d = 0) && (plainR f && plainR b) && pairB f b (unitsL d)

theorem imgOf_no {l : List Rule} {u : Int} (h : first l [u] 0 < 0) : imgOf l u = [u] := by unfold imgOf; rw [if_pos h]
theorem imgOf_some {l : List Rule} {u : Int} {i : Nat} {r : Rule} (h : first l [u] 0 = i) (hr : l[i]? = some r) : imgOf l u = r.target := by
  unfold imgOf; rw [if_neg (by omega), h, Int.toNat_natCast, List.getD, hr]; rfl
theorem undone_no {b : List Rule} {t : List Int} {n : Nat} {u : Int} (h : first b t 0 < 0) : undoneB b t n u = (decide (n = 1) && decide (t.headD 0 = u)) := by unfold undoneB; rw [if_pos h]
theorem undone_some {b : List Rule} {t : List Int} {n : Nat} {u : Int} {i : Nat} {r : Rule} (h : first b t 0 = i) (hr : b[i]? = some r) : undoneB b t n u = (decide (r.source.length = n) && decide (r.target = [u])) := by
  unfold undoneB; rw [if_neg (by omega), h, Int.toNat_natCast, List.getD, hr]; rfl
/-- nothing that is in both: no rune of the one is in the other -/
theorem meet_none {s d : List Sp} (hs : Good s) (hd : Good d) : (meetL s d).isEmpty = !((unitsL d).any fun u => has s u) := by
  have hc := meetL_spec s d hs.canon hd.canon
  cases hm : meetL s d with
  | nil =>
    have : ((unitsL d).any fun u => has s u) = false := by
      rw [List.any_eq_false]
      intro u hu
      have h1 := (units_mem (fun x hx => hd.rng x hx) u).1 hu
      have h2 := hc.2 u
      rw [hm, h1, Bool.and_true] at h2
      rw [← h2]; simp [has]
    rw [this]; rfl
  | cons z r =>
    have hz := (meetL_within s d z (by rw [hm]; simp))
    have h3 := hz.2.2
    have h2 := hc.2 z.lo
    have h4 : has (meetL s d) z.lo = true := by rw [hm]; simp [has, inSp]; omega
    rw [h4] at h2
    simp at h2
    have : ((unitsL d).any fun u => has s u) = true := List.any_eq_true.2 ⟨z.lo, (units_mem (fun x hx => hd.rng x hx) _).2 (by simpa using h2.2), by simpa using h2.1⟩
    rw [this]; rfl

end Go.Proofs.Ytfdkbhbnldcbmaa
