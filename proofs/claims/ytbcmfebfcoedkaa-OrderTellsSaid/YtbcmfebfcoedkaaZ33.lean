/- Plain and walks: the order of two rows of numbers: slices.Compare and the document's Order. -/
import Derived.Test.YtbcmfebfcoedkaaZ32
import Derived.Deep.QuietTactic
namespace Go.Proofs.Ytbcmfebfcoedkaa
open Go.RowKit
set_option linter.unusedVariables false
set_option linter.unusedSimpArgs false

/-! ### plain -/
def ordI : List Int → List Int → Int
  | [], [] => 0
  | [], _ :: _ => -1
  | _ :: _, [] => 1
  | x :: a, y :: b => if x < y then -1 else if y < x then 1 else ordI a b

/-- what an order is -/
structure CL {α : Type} (f : α → α → Int) : Prop where
  anti : ∀ x y, f y x = - f x y
  tr : ∀ x y z, f x y ≤ 0 → f y z ≤ 0 → f x z ≤ 0
theorem ordI_anti : ∀ a b, ordI b a = - ordI a b
  | [], [] => rfl
  | [], _ :: _ => rfl
  | _ :: _, [] => rfl
  | x :: a, y :: b => by
    unfold ordI
    by_cases h : x < y
    · have h' : ¬ y < x := by omega
      simp [h, h']
    · by_cases h2 : y < x
      · simp [h, h2]
      · simp only [h, h2, if_false]; exact ordI_anti a b
theorem ordI_tr : ∀ a b c, ordI a b ≤ 0 → ordI b c ≤ 0 → ordI a c ≤ 0
  | [], _, [] => fun _ _ => by simp [ordI]
  | [], _, _ :: _ => fun _ _ => by simp [ordI]
  | _ :: _, [], _ => fun h _ => by simp [ordI] at h
  | _ :: _, _ :: _, [] => fun _ h => by simp [ordI] at h
  | x :: a, y :: b, z :: c => fun h k => by
    unfold ordI at h k ⊢
    by_cases h1 : x < z
    · rw [if_pos h1]; omega
    · rw [if_neg h1]
      by_cases h2 : x < y
      · by_cases h3 : y < z
        · omega
        · rw [if_neg h3, if_pos (by omega)] at k; omega
      · rw [if_neg h2] at h
        by_cases h3 : y < x
        · rw [if_pos h3] at h; omega
        · rw [if_neg h3] at h
          have e : x = y := by omega
          subst e
          rw [if_neg h1] at k
          by_cases h4 : z < x
          · rw [if_pos h4] at k; omega
          · rw [if_neg h4] at k ⊢
            exact ordI_tr a b c h k
theorem clI : CL ordI := ⟨ordI_anti, ordI_tr⟩
theorem CL.on {α β : Type} {f : α → α → Int} (h : CL f) (g : β → α) : CL fun x y => f (g x) (g y) := ⟨fun x y => h.anti _ _, fun x y z => h.tr _ _ _⟩
theorem CL.lt {α : Type} {f : α → α → Int} (h : CL f) {x y z : α} (h1 : f x y ≤ 0) (h2 : f y z < 0) : f x z < 0 := by
  by_cases hz : f x z < 0
  · exact hz
  · have a := h.anti x z
    have := h.tr z x y (by omega) h1
    have := h.anti y z
    omega
theorem CL.lt' {α : Type} {f : α → α → Int} (h : CL f) {x y z : α} (h1 : f x y < 0) (h2 : f y z ≤ 0) : f x z < 0 := by
  by_cases hz : f x z < 0
  · exact hz
  · have a := h.anti x z
    have := h.tr y z x h2 (by omega)
    have := h.anti x y
    omega
theorem CL.lex {α : Type} {f g : α → α → Int} (h : CL f) (k : CL g) : CL fun x y => if f x y = 0 then g x y else f x y where
  anti x y := by
    have a := h.anti x y; have b := k.anti x y
    show (if f y x = 0 then g y x else f y x) = -(if f x y = 0 then g x y else f x y)
    by_cases e : f x y = 0
    · rw [if_pos e, if_pos (by omega)]; exact b
    · rw [if_neg e, if_neg (by omega)]; exact a
  tr x y z h1 h2 := by
    revert h1 h2
    show (if f x y = 0 then g x y else f x y) ≤ 0 → (if f y z = 0 then g y z else f y z) ≤ 0 → (if f x z = 0 then g x z else f x z) ≤ 0
    intro h1 h2
    by_cases e : f x y = 0
    · rw [if_pos e] at h1
      by_cases e2 : f y z = 0
      · rw [if_pos e2] at h2
        have := h.tr x y z (by omega) (by omega)
        have a1 := h.anti x y; have a2 := h.anti y z; have a3 := h.anti x z
        have := h.tr z y x (by omega) (by omega)
        rw [if_pos (by omega)]
        exact k.tr _ _ _ h1 h2
      · rw [if_neg e2] at h2
        have := h.lt (x := x) (y := y) (z := z) (by omega) (by omega)
        rw [if_neg (by omega)]; omega
    · rw [if_neg e] at h1
      have h3 : f y z ≤ 0 := by
        by_cases e2 : f y z = 0
        · omega
        · rw [if_neg e2] at h2; exact h2
      have := h.lt' (x := x) (y := y) (z := z) (by omega) h3
      rw [if_neg (by omega)]; omega
theorem CL.ord {f : Int → Int → Int} (h : CL f) : Ord (ltC f) :=
  ⟨fun x y e => by
    unfold ltC at *
    have := h.anti x y
    simp at *; omega, fun x y z h1 h2 => by
    unfold ltC at *
    have a := h.anti x y; have b := h.anti y z; have c := h.anti x z
    simp at h1 h2 ⊢
    have := h.tr x y z (by omega) (by omega)
    omega⟩
section
variable {a b : List Int} {k : Nat} {x y : Int}
theorem drop_at (h : a[k]? = some x) : a.drop k = x :: a.drop (k + 1) := by
  obtain ⟨hk, e⟩ := List.getElem?_eq_some_iff.1 h
  rw [List.drop_eq_getElem_cons hk, e]
theorem ordI_eq (h : a[k]? = some x) (h' : b[k]? = some x) : ordI (a.drop k) (b.drop k) = ordI (a.drop (k + 1)) (b.drop (k + 1)) := by
  rw [drop_at h, drop_at h']; simp [ordI]
theorem ordI_ne (h : a[k]? = some x) (h' : b[k]? = some y) (hn : x ≠ y) : ordI (a.drop k) (b.drop k) = cmpI x y := by
  rw [drop_at h, drop_at h']; unfold ordI cmpI
  by_cases h1 : x < y
  · rw [if_pos h1, if_pos h1]
  · rw [if_neg h1, if_neg h1, if_pos (by omega), if_pos (by omega)]
theorem ordI_right (h : a[k]? = some x) (h' : b.length ≤ k) : ordI (a.drop k) (b.drop k) = 1 := by
  rw [drop_at h, List.drop_eq_nil_of_le h']; rfl
theorem ordI_left (h : a.length ≤ k) (h' : b[k]? = some x) : ordI (a.drop k) (b.drop k) = -1 := by
  rw [drop_at h', List.drop_eq_nil_of_le h]; rfl
theorem ordI_end (h : a.length ≤ k) (h' : b.length ≤ k) : ordI (a.drop k) (b.drop k) = 0 := by
  rw [List.drop_eq_nil_of_le h, List.drop_eq_nil_of_le h']; rfl
end

/-! ### slices.Compare -/
set_option maxRecDepth 1000000 in
set_option maxHeartbeats 1600000 in
theorem slCompare_any (A B : Option Addr) (n c n' d : Nat) (l m : List Int) (w : World) (hA : Ints w A n c l) (hB : Ints w B n' d m) :
    Calls Try.prog 36 #[.slice A n c, .slice B n' d] w fun e w' => e = .returned (.int .i64 (ordI l m)) ∧ w' = w := by
  have h1 := Lib.hid hA.len; have h2 := Lib.hid hB.len
  have hmA := hA.max; have hcA := hA.cap; unfold maxLen at hmA
  have hmB := hB.max; have hcB := hB.cap; unfold maxLen at hmB
  obtain ⟨R, hR⟩ : ∃ R, R = ordI l m := ⟨_, rfl⟩
  rw [← hR]
  have HR := Lib.hid (show ordI (l.drop 0) (m.drop 0) = R by rw [hR]; rfl)
  have CI := Lib.hid (fun x y => Compare_int x y w)
  clear hR
  go_enter Try.func36, Try.ntmps36
  go_wp2
  go_loopw [11] (fun i wr => ∃ k : Nat, i = .int .i64 k ∧ k ≤ n ∧ k ≤ n' ∧ Hid (ordI (l.drop k) (m.drop k) = R) ∧ wr = w) (fun i _ => n - (intOf i).toNat)
  case atStart => exact ⟨0, rfl, by omega, by omega, HR, rfl⟩
  case round =>
    clear HR
    obtain ⟨k, rfl, hk, hk', HR, rfl⟩ := hrel
    by_cases hlt : k < n
    · have gz : (k : Int) < (n : Int) := by omega
      obtain ⟨x, hxx⟩ := hA.idx hlt
      obtain ⟨b, off, rfl, _, hc, hi1⟩ := hA.int hxx
      by_cases hlt' : k < n'
      · have gz' : ¬ (n' : Int) ≤ (k : Int) := by omega
        obtain ⟨y, hyy⟩ := hB.idx hlt'
        obtain ⟨b2, off2, rfl, _, hc2, hi2⟩ := hB.int hyy
        have C := Lib.hid (CI.out x y)
        by_cases he : x = y
        · have HE := Lib.hid (show ordI (l.drop (k + 1)) (m.drop (k + 1)) = R by subst he; rw [← HR.out]; exact (ordI_eq hxx hyy).symm)
          have e0 : cmpI x y = 0 := by subst he; simp [cmpI]
          rw [e0] at C
          clear hxx hyy he HR e0
          go_wp2_with (go_at_call 45; ((with_reducible refine C.out.mono ?_); rintro e w' ⟨rfl, rfl⟩))
          go_roundw
          case rel => exact ⟨k + 1, by go_num, by omega, by omega, HE, trivial⟩
          case measure => simp [intOf]; omega
        · have HE := Lib.hid (show cmpI x y = R by rw [← HR.out]; exact (ordI_ne hxx hyy he).symm)
          have hne : (cmpI x y != 0) = true := by
            unfold cmpI
            by_cases q : x < y
            · rw [if_pos q]; rfl
            · rw [if_neg q, if_pos (by omega)]; rfl
          generalize cmpI x y = u at *
          clear hxx hyy he HR
          go_wp2_with (go_at_call 45; ((with_reducible refine C.out.mono ?_); rintro e w' ⟨rfl, rfl⟩))
          go_ret
          rw [HE.out]
          exact ⟨rfl, rfl⟩
      · have gz' : (n' : Int) ≤ (k : Int) := by omega
        have HE := Lib.hid (show 1 = R by rw [← HR.out]; exact (ordI_right hxx (by rw [h2.out]; omega)).symm)
        clear hxx HR
        go_wp2
        go_ret
        rw [← HE.out]
        exact ⟨rfl, rfl⟩
    · have gz : ¬ (k : Int) < (n : Int) := by omega
      by_cases hlt' : k < n'
      · have g3 : (n : Int) < (n' : Int) := by omega
        obtain ⟨y, hyy⟩ := hB.idx hlt'
        have HE := Lib.hid (show -1 = R by rw [← HR.out]; exact (ordI_left (by rw [h1.out]; omega) hyy).symm)
        clear hyy HR
        go_wp2
        go_ret
        rw [← HE.out]
        exact ⟨rfl, rfl⟩
      · have g3 : ¬ (n : Int) < (n' : Int) := by omega
        have HE := Lib.hid (show 0 = R by rw [← HR.out]; exact (ordI_end (by rw [h1.out]; omega) (by rw [h2.out]; omega)).symm)
        clear HR
        go_wp2
        go_ret
        rw [← HE.out]
        exact ⟨rfl, rfl⟩

/-! ### the document's Order -/
set_option maxRecDepth 1000000 in
set_option maxHeartbeats 1600000 in
theorem Order_any (A B : Option Addr) (n c n' d : Nat) (l m : List Int) (w : World) (hA : Ints w A n c l) (hB : Ints w B n' d m) :
    Calls Try.prog 37 #[.slice A n c, .slice B n' d] w fun e w' => e = .returned (.int .i64 (ordI l m)) ∧ Ext w w' := by
  have h1 := Lib.hid hA.len; have h2 := Lib.hid hB.len
  have hmA := hA.max; have hcA := hA.cap; unfold maxLen at hmA
  have hmB := hB.max; have hcB := hB.cap; unfold maxLen at hmB
  obtain ⟨R, hR⟩ : ∃ R, R = ordI l m := ⟨_, rfl⟩
  rw [← hR]
  have HR := Lib.hid (show ordI (l.drop 0) (m.drop 0) = R by rw [hR]; rfl)
  clear hR
  go_enter Try.func37, Try.ntmps37
  go_wp2
  go_loopw [5] (fun i wr => ∃ k : Nat, i = .int .i64 k ∧ k ≤ n ∧ k ≤ n' ∧ Hid (ordI (l.drop k) (m.drop k) = R) ∧ Ext w wr) (fun i _ => n - (intOf i).toNat)
  case atStart => exact ⟨0, rfl, by omega, by omega, HR, Ext.refl _⟩
  case round =>
    clear HR
    obtain ⟨k, rfl, hk, hk', HR, hx⟩ := hrel
    by_cases hlt : k < n
    · have gz : ((k : Int) == (n : Int)) = false := by simp; omega
      obtain ⟨x, hxx⟩ := hA.idx hlt
      obtain ⟨b, off, rfl, _, hc, hi1⟩ := (hA.ext hx).int hxx
      by_cases hlt' : k < n'
      · have gz' : ((k : Int) == (n' : Int)) = false := by simp; omega
        obtain ⟨y, hyy⟩ := hB.idx hlt'
        obtain ⟨b2, off2, rfl, _, hc2, hi2⟩ := (hB.ext hx).int hyy
        by_cases he : x = y
        · subst he
          have HE := Lib.hid (show ordI (l.drop (k + 1)) (m.drop (k + 1)) = R by rw [← HR.out]; exact (ordI_eq hxx hyy).symm)
          have q1 : ¬ x < x := by omega
          clear hxx hyy HR
          go_wp2
          go_quiet (fail)
          go_wp2
          go_quiet (fail)
          go_wp2
          go_roundw
          case rel => exact ⟨k + 1, by go_num, by omega, by omega, HE, by first | exact hx.drewN _ | exact (hx.drewN _).drewN _⟩
          case measure => simp [intOf]; omega
        · have HE := Lib.hid (show cmpI x y = R by rw [← HR.out]; exact (ordI_ne hxx hyy he).symm)
          clear hxx hyy HR
          by_cases q : x < y
          · have HF := Lib.hid (show -1 = R by rw [← HE.out]; unfold cmpI; rw [if_pos q])
            clear HE
            go_wp2
            go_quiet (fail)
            go_wp2
            go_ret
            rw [← HF.out]
            exact ⟨rfl, by first | exact hx.drewN _ | exact (hx.drewN _).drewN _⟩
          · have q2 : y < x := by omega
            have HF := Lib.hid (show 1 = R by rw [← HE.out]; unfold cmpI; rw [if_neg q, if_pos q2])
            clear HE
            go_wp2
            go_quiet (fail)
            go_wp2
            go_quiet (fail)
            go_wp2
            go_ret
            rw [← HF.out]
            exact ⟨rfl, by first | exact hx.drewN _ | exact (hx.drewN _).drewN _⟩
      · have gz' : ((k : Int) == (n' : Int)) = true := by simp; omega
        have HE := Lib.hid (show 1 = R by rw [← HR.out]; exact (ordI_right hxx (by rw [h2.out]; omega)).symm)
        clear hxx HR
        go_wp2
        go_ret
        rw [← HE.out]
        exact ⟨rfl, hx⟩
    · have gz : ((k : Int) == (n : Int)) = true := by simp; omega
      by_cases hlt' : k < n'
      · have gz' : ((k : Int) == (n' : Int)) = false := by simp; omega
        obtain ⟨y, hyy⟩ := hB.idx hlt'
        have HE := Lib.hid (show -1 = R by rw [← HR.out]; exact (ordI_left (by rw [h1.out]; omega) hyy).symm)
        clear hyy HR
        go_wp2
        go_ret
        rw [← HE.out]
        exact ⟨rfl, hx⟩
      · have gz' : ((k : Int) == (n' : Int)) = true := by simp; omega
        have HE := Lib.hid (show 0 = R by rw [← HR.out]; exact (ordI_end (by rw [h1.out]; omega) (by rw [h2.out]; omega)).symm)
        clear HR
        go_wp2
        go_ret
        rw [← HE.out]
        exact ⟨rfl, hx⟩

end Go.Proofs.Ytbcmfebfcoedkaa
