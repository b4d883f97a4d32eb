/- Walks: runes, and the library's small functions on lists of runes. -/
import Derived.Test.YtbcmfebfcoedkaaProg
import Derived.Test.YtbcmfebfcoedkaaKit
import Derived.Test.YtbcmfebfcoedkaaSpec
namespace Go.Proofs.Ytbcmfebfcoedkaa
open Go.RowKit
set_option linter.unusedVariables false

set_option maxHeartbeats 400000 in
theorem ValidRune_any (r : Int) (w : World) : Calls Try.prog 50 #[.int .i32 r] w fun e w' => e = .returned (.bool (right r)) ∧ w = w' := by
  by_cases h1 : 0 ≤ r
  · by_cases h2 : r < 55296
    · have e : right r = true := by simp [right]; omega
      have H := Lib.hid e; clear e
      go_enter Try.func50, Try.ntmps50
      go_wp2
      go_ret
      rw [H.out]; exact ⟨rfl, rfl⟩
    · by_cases h3 : 57343 < r
      · by_cases h4 : r ≤ 1114111
        · have e : right r = true := by simp [right]; omega
          have H := Lib.hid e; clear e
          go_enter Try.func50, Try.ntmps50
          go_wp2
          go_ret
          rw [H.out]; exact ⟨rfl, rfl⟩
        · have e : right r = false := by simp [right]; omega
          have H := Lib.hid e; clear e
          go_enter Try.func50, Try.ntmps50
          go_wp2
          go_ret
          rw [H.out]; exact ⟨rfl, rfl⟩
      · have e : right r = false := by simp [right]; omega
        have H := Lib.hid e; clear e
        go_enter Try.func50, Try.ntmps50
        go_wp2
        go_ret
        rw [H.out]; exact ⟨rfl, rfl⟩
  · have e : right r = false := by simp [right]; omega
    have H := Lib.hid e; clear e
    go_enter Try.func50, Try.ntmps50
    go_wp2
    go_ret
    rw [H.out]; exact ⟨rfl, rfl⟩

theorem Right_any (r : Int) (w : World) : Calls Try.prog 42 #[.int .i32 r] w fun e w' => e = .returned (.bool (right r)) ∧ w = w' := by
  go_enter Try.func42, Try.ntmps42
  go_wp2_with (go_at_call 50; refine (ValidRune_any _ _).mono ?_; rintro e w' ⟨rfl, rfl⟩)
  go_ret
  exact ⟨rfl, rfl⟩

set_option maxHeartbeats 400000 in
theorem refRight_any (r : Int) (w : World) : Calls Try.prog 53 #[.int .i32 r] w fun e w' => e = .returned (.bool (right r)) ∧ w = w' := by
  have fin : ∀ b : Bool, b = right r → Ending.returned (.bool b) = .returned (.bool (right r)) := fun b h => by rw [h]
  by_cases h1 : 0 ≤ r <;> by_cases h2 : r ≤ 1114111 <;> by_cases h3 : r < 55296 <;> by_cases h4 : 57343 < r
  all_goals first
    | (exfalso; omega)
    | (go_enter Try.func53, Try.ntmps53
       go_wp2
       go_ret
       exact ⟨fin _ (by simp [right]; omega), rfl⟩)

theorem notRight2_any (r : Int) (w : World) : Calls Try.prog 41 #[.int .i32 r] w fun e w' => e = .returned (.bool (!right r)) ∧ w = w' := by
  go_enter Try.func41, Try.ntmps41
  go_wp2_with (go_at_call 42; refine (Right_any _ _).mono ?_; rintro e w' ⟨rfl, rfl⟩)
  go_ret
  exact ⟨rfl, rfl⟩

set_option maxHeartbeats 400000 in
theorem All_any (A : Option Addr) (n c : Nat) (l : List Int) (w : World) (h : Runes w A n c l) :
    Calls Try.prog 46 #[.slice A n c] w fun e w' => e = .returned (.bool (l.all right)) ∧ w = w' := by
  have hm := h.max; unfold maxLen at hm
  have hcap := h.cap
  have hlen := Lib.hid h.len
  go_enter Try.func46, Try.ntmps46
  go_wp2
  go_loop [7] (fun i => ∃ k : Nat, k ≤ n ∧ i = .int .i64 k ∧ l.all right = (l.drop k).all right) (fun i => n - (intOf i).toNat)
  case atStart => exact ⟨0, by omega, rfl, rfl⟩
  case round =>
    obtain ⟨k, hk, rfl, hkk⟩ := hrel
    have HK := Lib.hid hkk; clear hkk
    by_cases hlt : k < n
    · obtain ⟨x, hx⟩ := h.idx hlt
      obtain ⟨b, off, rfl, _, hc, _⟩ := h.rune hx
      have HD := Lib.hid (drop_cons hx); clear hx
      by_cases hr : right x = true
      · go_wp2_with (go_at_call 53; refine (refRight_any _ _).mono ?_; rintro e w' ⟨rfl, rfl⟩)
        go_round
        case rel => exact ⟨k + 1, by omega, by go_num, by rw [HK.out, HD.out, List.all_cons, hr, Bool.true_and]⟩
        case measure => simp [intOf]; omega
      · have hr' : right x = false := by simpa using hr
        go_wp2_with (go_at_call 53; refine (refRight_any _ _).mono ?_; rintro e w' ⟨rfl, rfl⟩)
        go_ret
        rw [HK.out, HD.out, List.all_cons, hr']
        exact ⟨rfl, rfl⟩
    · go_wp2
      go_ret
      rw [HK.out, drop_end hlen.out hlt]
      exact ⟨rfl, rfl⟩

/-- A function value that tells a predicate on runes. -/
def PredRune (g : FuncId) (caps : Array Value) (p : Int → Bool) (w : World) : Prop :=
  ∀ W x, Ext w W → Calls Try.prog g (#[.int .i32 x] ++ caps) W fun e w' => e = .returned (.bool (p x)) ∧ Ext W w'

set_option maxHeartbeats 400000 in
theorem IndexRune_any (A : Option Addr) (n c : Nat) (l : List Int) (w : World) (g : FuncId) (caps : Array Value) (p : Int → Bool)
    (eg : ∀ args w, (callFunc g args).run Try.prog w = .ok (.enter g args) w) (hp : PredRune g caps p w) (h : Runes w A n c l) :
    Calls Try.prog 47 #[.slice A n c, .func (.func g) #[] caps] w fun e w' => e = .returned (.int .i64 (idxFrom p 0 l)) ∧ Ext w w' := by
  have hm := h.max; unfold maxLen at hm
  have hcap := h.cap
  have hlen := Lib.hid h.len
  have HP := Lib.hid hp; clear hp
  go_enter Try.func47, Try.ntmps47
  go_wp2
  go_loopw [8] (fun i wr => ∃ k : Nat, k ≤ n ∧ i = .int .i64 k ∧ idxFrom p 0 l = idxFrom p k (l.drop k) ∧ Ext w wr) (fun i _ => n - (intOf i).toNat)
  case atStart => exact ⟨0, by omega, rfl, rfl, Ext.refl _⟩
  case round =>
    obtain ⟨k, hk, rfl, hkk, hx⟩ := hrel
    have HK := Lib.hid hkk; clear hkk
    by_cases hlt : k < n
    · obtain ⟨x, hxx⟩ := h.idx hlt
      obtain ⟨b, off, rfl, _, hc, _⟩ := (h.ext hx).rune hxx
      have HD := Lib.hid (drop_cons hxx); clear hxx
      have hcon := HP.out wr x hx
      have HC := Lib.hid hcon; clear hcon
      by_cases hr : p x = true
      · go_wp2_with fail
        refine HC.out.mono ?_
        rintro e w1 ⟨rfl, hx1⟩
        rw [hr]
        go_wp2
        go_ret
        rw [HK.out, HD.out]
        exact ⟨by simp [idxFrom, hr], hx.trans hx1⟩
      · have hr' : p x = false := by simpa using hr
        go_wp2_with fail
        refine HC.out.mono ?_
        rintro e w1 ⟨rfl, hx1⟩
        rw [hr']
        go_wp2
        go_roundw
        case rel => exact ⟨k + 1, by omega, by go_num, by rw [HK.out, HD.out]; simp [idxFrom, hr'], hx.trans hx1⟩
        case measure => simp [intOf]; omega
    · go_wp2
      go_ret
      rw [HK.out, drop_end hlen.out hlt]
      exact ⟨rfl, hx⟩

theorem ContainsRune_any (A : Option Addr) (n c : Nat) (l : List Int) (w : World) (g : FuncId) (caps : Array Value) (p : Int → Bool)
    (eg : ∀ args w, (callFunc g args).run Try.prog w = .ok (.enter g args) w) (hp : PredRune g caps p w) (h : Runes w A n c l) :
    Calls Try.prog 40 #[.slice A n c, .func (.func g) #[] caps] w fun e w' => e = .returned (.bool (l.any p)) ∧ Ext w w' := by
  have HC := Lib.hid (IndexRune_any A n c l w g caps p eg hp h)
  have hm := h.max; unfold maxLen at hm
  have hb := idxFrom_le p 0 l
  have hg := Lib.hid (idxFrom_geq p 0 l)
  clear eg hp h
  generalize idxFrom p 0 l = z at *
  go_enter Try.func40, Try.ntmps40
  go_wp2_with (go_at_call 47; refine HC.out.mono ?_; rintro e w' ⟨rfl, hx⟩)
  go_ret
  rw [← hg.out]
  exact ⟨rfl, hx⟩

theorem any_not {α : Type} (p : α → Bool) (l : List α) : (l.any fun x => !p x) = !l.all p := by
  induction l with
  | nil => rfl
  | cons x r ih => simp only [List.any_cons, List.all_cons, ih]; cases p x <;> rfl

set_option maxHeartbeats 400000 in
theorem Text_any (A : Option Addr) (n c : Nat) (l : List Int) (w : World) (h : Runes w A n c l) :
    Calls Try.prog 25 #[.slice A n c] w fun e w' => e = .returned (.int .i64 (wrongText l)) ∧ Ext w w' := by
  have eg := enters Try.func41 (by kernel_rfl) rfl
  have hm := h.max; unfold maxLen at hm
  have hcap := h.cap
  by_cases hbig : 4000 < n
  · have e : wrongText l = 4 := by unfold wrongText; rw [if_pos (by rw [h.len]; exact hbig)]
    have H := Lib.hid e; clear e
    go_enter Try.func25, Try.ntmps25
    go_wp2
    go_ret
    rw [H.out]; exact ⟨rfl, Ext.refl _⟩
  have HC := Lib.hid (ContainsRune_any A n c l w 41 #[] (fun x => !right x) eg (fun W x _ => (notRight2_any x W).mono fun e w' ⟨h1, h2⟩ => ⟨h1, by rw [h2]; exact Ext.refl _⟩) h)
  have hlen := Lib.hid h.len
  clear h
  cases ha : l.all right
  · have e : wrongText l = 3 := by unfold wrongText; rw [if_neg (by rw [hlen.out]; exact hbig)]; simp [ha]
    have H := Lib.hid e; clear e
    have e2 : (l.any fun x => !right x) = true := by rw [any_not, ha]; rfl
    have H2 := Lib.hid e2; clear e2 ha
    go_enter Try.func25, Try.ntmps25
    go_wp2_with (go_at_call 40; refine HC.out.mono ?_; rintro e w' ⟨rfl, hx⟩; rw [H2.out])
    go_ret
    rw [H.out]; exact ⟨rfl, hx⟩
  · have e : wrongText l = 0 := by unfold wrongText; rw [if_neg (by rw [hlen.out]; exact hbig)]; simp [ha]
    have H := Lib.hid e; clear e
    have e2 : (l.any fun x => !right x) = false := by rw [any_not, ha]; rfl
    have H2 := Lib.hid e2; clear e2 ha
    go_enter Try.func25, Try.ntmps25
    go_wp2_with (go_at_call 40; refine HC.out.mono ?_; rintro e w' ⟨rfl, hx⟩; rw [H2.out])
    go_ret
    rw [H.out]; exact ⟨rfl, hx⟩

set_option maxHeartbeats 400000 in
theorem refText_any (A : Option Addr) (n c : Nat) (l : List Int) (w : World) (h : Runes w A n c l) :
    Calls Try.prog 29 #[.slice A n c] w fun e w' => e = .returned (.int .i64 (wrongText l)) ∧ w = w' := by
  have hm := h.max; unfold maxLen at hm
  have hcap := h.cap
  by_cases hbig : 4000 < n
  · have e : wrongText l = 4 := by unfold wrongText; rw [if_pos (by rw [h.len]; exact hbig)]
    have H := Lib.hid e; clear e
    go_enter Try.func29, Try.ntmps29
    go_wp2
    go_ret
    rw [H.out]; exact ⟨rfl, rfl⟩
  have HC := Lib.hid (All_any A n c l w h)
  have hlen := Lib.hid h.len
  clear h
  cases ha : l.all right
  · have e : wrongText l = 3 := by unfold wrongText; rw [if_neg (by rw [hlen.out]; exact hbig)]; simp [ha]
    have H := Lib.hid e; clear e
    have H2 := Lib.hid ha; clear ha
    go_enter Try.func29, Try.ntmps29
    go_wp2_with (go_at_call 46; refine HC.out.mono ?_; rintro e w' ⟨rfl, rfl⟩; rw [H2.out])
    go_ret
    rw [H.out]; exact ⟨rfl, rfl⟩
  · have e : wrongText l = 0 := by unfold wrongText; rw [if_neg (by rw [hlen.out]; exact hbig)]; simp [ha]
    have H := Lib.hid e; clear e
    have H2 := Lib.hid ha; clear ha
    go_enter Try.func29, Try.ntmps29
    go_wp2_with (go_at_call 46; refine HC.out.mono ?_; rintro e w' ⟨rfl, rfl⟩; rw [H2.out])
    go_ret
    rw [H.out]; exact ⟨rfl, rfl⟩

end Go.Proofs.Ytbcmfebfcoedkaa
