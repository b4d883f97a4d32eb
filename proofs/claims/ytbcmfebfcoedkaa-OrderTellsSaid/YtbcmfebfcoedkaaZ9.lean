/- Walk: norm.sorted: each run of marks in the order of classes. -/
import Derived.Test.YtbcmfebfcoedkaaZ8
namespace Go.Proofs.Ytbcmfebfcoedkaa
open Go.RowKit Go.Sort
set_option linter.unusedVariables false
set_option linter.unusedSimpArgs false

theorem T_rune : ElemT Try.prog 22 21 1 4 := elemT Try.underlying22 (z := .int .i32 0) (by kernel_rfl) rfl (by omega)

theorem putRow_sub (k : IntKind) (w : World) (b off i : Nat) (P X Y S : List Int) (hP : P.length = i) (hl : Y.length = X.length) :
    putRow (Value.int k) (putRow (Value.int k) w b off (P ++ X ++ S).toArray) b (off + i) Y.toArray = putRow (Value.int k) w b off (P ++ Y ++ S).toArray := by
  unfold putRow
  rw [mapBlock_mapBlock]
  refine mapBlock_congr _ _ _ _ fun c _ _ _ => ?_
  apply Array.ext_getElem?
  intro q
  simp only [putCells, Array.getElem?_mapIdx, List.size_toArray, List.length_append, toArray_get]
  cases c[q]? with
  | none => rfl
  | some y =>
    simp only [Option.map_some]
    by_cases h1 : off + i ≤ q ∧ q < off + i + Y.length
    · rw [if_pos h1, if_pos (by omega)]
      rw [List.append_assoc P Y, getD_app_r (A := P) (by omega), getD_app_l (by omega)]
      rw [show q - off - P.length = q - (off + i) by omega]
    · rw [if_neg h1]
      by_cases h2 : off ≤ q ∧ q < off + (P.length + X.length + S.length)
      · rw [if_pos h2, if_pos (by omega)]
        by_cases h3 : q - off < P.length
        · rw [List.append_assoc, List.append_assoc, getD_app_l h3, getD_app_l h3]
        · rw [getD_app_r (A := P ++ X) (by simp; omega), getD_app_r (A := P ++ Y) (by simp; omega)]
          simp [hl]
      · rw [if_neg h2, if_neg (by omega)]

/-- where the outer loop may stand -/
def SInv (L : List Int) (i : Nat) : Prop := i = 0 ∨ (0 < i ∧ clsOf (L.getD (i - 1) 0) = 0) ∨ i = L.length ∨ clsOf (L.getD i 0) = 0

theorem getD_take {L : List Int} {i q : Nat} (h : q < i) : (L.take i).getD q 0 = L.getD q 0 := by
  rw [List.getD_eq_getElem?_getD, List.getD_eq_getElem?_getD, List.getElem?_take, if_pos h]
theorem getD_drop {L : List Int} {i q : Nat} : (L.drop i).getD q 0 = L.getD (i + q) 0 := by
  rw [List.getD_eq_getElem?_getD, List.getD_eq_getElem?_getD, List.getElem?_drop]
theorem take_last {L : List Int} {i : Nat} (h0 : 0 < i) (h : i ≤ L.length) : L.take i = L.take (i - 1) ++ [L.getD (i - 1) 0] := by
  have := take_snoc (l := L) (k := i - 1) (List.getElem?_eq_getElem (by omega))
  rw [show i - 1 + 1 = i by omega] at this
  rw [this, List.getD_eq_getElem?_getD, List.getElem?_eq_getElem (by omega)]; rfl

/-- what comes of a round, as lists -/
theorem sortedList {L : List Int} {i k : Nat} (hik : i ≤ k) (hkn : k ≤ L.length) (hin : i < L.length) (hM : ∀ q, i ≤ q → q < k → 0 < clsOf (L.getD q 0)) (hst : k = L.length ∨ clsOf (L.getD k 0) = 0) (hinv : SInv L i) :
    nsort (L.take i) ++ isort (ltC cmpC) ((L.drop i).take (k - i)) ++ L.drop k = nsort (L.take (max k (i + 1))) ++ L.drop (max k (i + 1)) ∧ SInv L (max k (i + 1)) := by
  by_cases h : i < k
  · rw [show max k (i + 1) = k by omega]
    have hs : L.take k = L.take i ++ (L.drop i).take (k - i) := by
      have := List.take_append_drop i (L.take k)
      rw [List.take_take, List.drop_take, show min i k = i by omega] at this
      exact this.symm
    refine ⟨?_, ?_⟩
    · rw [hs, nsort_marks]
      · rcases hinv with h0 | ⟨h0, h1⟩ | h0 | h0
        · left; rw [h0]; rfl
        · right; exact ⟨_, _, take_last h0 (by omega), h1⟩
        · omega
        · have := hM i (Nat.le_refl _) h; omega
      · intro y hy
        obtain ⟨q, hq, rfl⟩ := mem_getD hy
        have hq' : q < k - i := by simp at hq; omega
        rw [getD_take hq', getD_drop]
        exact hM _ (by omega) (by omega)
    · rcases hst with h0 | h0
      · exact .inr (.inr (.inl h0))
      · exact .inr (.inr (.inr h0))
  · have : k = i := by omega
    subst this
    rw [show max k (k + 1) = k + 1 by omega, Nat.sub_self, List.take_zero, isort_nil, List.append_nil]
    have h0 : clsOf (L.getD k 0) = 0 := by rcases hst with h | h; omega; exact h
    have hx : L[k]? = some (L.getD k 0) := by rw [List.getD_eq_getElem?_getD, List.getElem?_eq_getElem hin]; rfl
    refine ⟨?_, .inr (.inl ⟨by omega, by simpa using h0⟩)⟩
    rw [take_snoc hx, nsort_zero h0]
    obtain ⟨hk, e⟩ := List.getElem?_eq_some_iff.1 hx
    rw [List.drop_eq_getElem_cons hk, e]
    simp

theorem sortedStep (b off n cap i k : Nat) (L D : List Int) (w W : World) (S : SE .i32 w b off L (fun _ => True) D W) (hD : D = nsort (L.take i) ++ L.drop i) (hn : L.length = n) (hm : n < 1152921504606846976)
    (hik : i ≤ k) (hkn : k ≤ n) (hin : i < n) (hM : ∀ q, i ≤ q → q < k → 0 < clsOf (L.getD q 0)) (hst : k = n ∨ clsOf (L.getD k 0) = 0) (hinv : SInv L i) :
    Calls Try.prog 43 #[.slice (some ⟨b, off + i, none⟩) (k - i) (cap - i), .func (.func 44) #[] #[]] W
      fun e w' => e = .returned (.tuple #[]) ∧ SE .i32 w b off L (fun _ => True) (nsort (L.take (max k (i + 1))) ++ L.drop (max k (i + 1))) w' := by
  have eg := enters Try.func44 (by kernel_rfl) rfl
  have hP : (nsort (L.take i)).length = i := by rw [nsort_len]; simp; omega
  have hseg : ((L.drop i).take (k - i)).length = k - i := by simp; omega
  have eD : D = nsort (L.take i) ++ (L.drop i).take (k - i) ++ L.drop k := by
    rw [hD, List.append_assoc]
    congr 1
    have := List.take_append_drop (k - i) (L.drop i)
    rw [List.drop_drop, show i + (k - i) = k by omega] at this
    exact this.symm
  have hl := (sortedList hik (by omega) (by omega) hM (by rw [hn]; exact hst) hinv).1
  generalize hX : (L.drop i).take (k - i) = X at *
  have hold : Holds (Value.int .i32) W b (off + i) X.toArray := by
    intro j hj
    have hj' : j < X.length := by simpa using hj
    have hlt : i + j < D.length := by rw [eD]; simp; omega
    have c := S.cell hlt
    have f := S.frz hlt
    rw [toArray_get, show off + i + j = off + (i + j) by omega]
    have e : D.getD (i + j) 0 = X.getD j 0 := by
      rw [eD, List.append_assoc, getD_app_r (by omega), hP, getD_app_l (by omega), show i + j - i = j by omega]
    rw [e] at c
    exact ⟨c, f⟩
  have C := SortStable_r 44 #[] cmpC ordC W b (off + i) (k - i) (cap - i) X (fun _ => True) eg (sortedAt_cmp _ _ _ _ _) (by omega) X W (SE.start hold S.lt.1 (fun _ _ => trivial)) hseg
  refine C.mono fun e w' ⟨h1, h2⟩ => ⟨h1, S.base, S.blk, ?_, fun _ _ => trivial, ?_⟩
  · rw [← hl, ← S.len, eD]; simp [isort_len ordC]
  · rw [← hl]
    have x1 := ext_mapBoth S.ext (b := b) (by rw [size_put]; exact S.blk) (putCells (Value.int .i32) (off + i) (isort (ltC cmpC) X).toArray)
    have x2 := putRow_sub .i32 w b off i (nsort (L.take i)) X (isort (ltC cmpC) X) (L.drop k) hP (isort_len ordC X)
    rw [← eD] at x2
    rw [← x2]
    exact Ext.trans x1 h2.ext

set_option maxHeartbeats 4000000 in
set_option maxRecDepth 1000000 in
theorem sorted_any (b off n cap : Nat) (L : List Int) (w : World) (H : Holds (Value.int .i32) w b off L.toArray) (hb : b < w.heap.size) (hn : L.length = n) (hcap : n ≤ cap) (hm : n < 1152921504606846976) :
    Calls Try.prog 28 #[.slice (some ⟨b, off, none⟩) n cap] w
      fun e w' => e = .returned (.slice (some ⟨b, off, none⟩) n cap) ∧ SE .i32 w b off L (fun _ => True) (nsort L) w' := by
  have S0 := Lib.hid (SE.start (ok := fun _ => True) H hb (fun _ _ => trivial))
  clear H
  have CL := Lib.hid (fun x W => Class_any x W)
  have hmf : ∀ (fn : Fn) (first cap : Array Value) (w : World), (Instr.makeFunc fn first cap).run Try.prog w = .ok (.func fn first cap) w := fun _ _ _ _ => rfl
  have hN := Lib.hid hn
  go_enter Try.func28, Try.ntmps28
  go_wp2
  go_loopw [3] (fun vi wr => ∃ i : Nat, vi = .int .i64 i ∧ i ≤ n ∧ Hid (SInv L i) ∧ Hid (SE .i32 w b off L (fun _ => True) (nsort (L.take i) ++ L.drop i) wr)) (fun vi _ => n - (intOf vi).toNat)
  case atStart => exact ⟨0, rfl, by omega, Lib.hid (.inl rfl), by simpa [nsort] using S0⟩
  case round =>
    clear S0
    obtain ⟨i, rfl, hi, HI, S1⟩ := hrel
    by_cases hlt : i < n
    · have hltz : (i : Int) < (n : Int) := by omega
      have STEP := Lib.hid (fun k W (e : Ext wr W) h1 h2 h3 h4 => sortedStep b off n cap i k L _ w W (S1.out.more e) rfl hN.out (by omega) h1 h2 hlt h3 h4 HI.out)
      have INV := Lib.hid (fun k h1 h2 h3 h4 => (sortedList (L := L) (i := i) (k := k) h1 h2 (by rw [hN.out]; exact hlt) h3 h4 HI.out).2)
      have hcell := Lib.hid (fun k (hk1 : i ≤ k) (hk2 : k < n) W (e : Ext wr W) => show W.cell? ⟨b, off + k, none⟩ = some (.int .i32 (L.getD k 0)) from by
        have hl : (nsort (L.take i) ++ L.drop i).length = n := by rw [List.length_append, nsort_len]; have := hN.out; simp; omega
        have hP : (nsort (L.take i)).length = i := by rw [nsort_len]; have := hN.out; simp; omega
        have := (S1.out.more e).cell (i := k) (by omega)
        rw [getD_app_r (by omega), hP, getD_drop, show i + (k - i) = k by omega] at this
        exact this)
      have cut0 : cutA (some ⟨b, off, none⟩) cap i 1 = some ⟨b, off + i, none⟩ := by unfold cutA; rw [if_neg (by omega)]; simp [addr_add]
      have w1 : IntKind.i64.wrap ((i : Int) + 1) = (i : Int) + 1 := IntWalk.i64_in _ (by omega)
      clear HI
      go_wp2
      go_loopw [4] (fun vk wr2 => ∃ k : Nat, vk = .int .i64 k ∧ i ≤ k ∧ k ≤ n ∧ Hid (∀ q, i ≤ q → q < k → 0 < clsOf (L.getD q 0)) ∧ Ext wr wr2) (fun vk _ => n - (intOf vk).toNat)
      case atStart => exact ⟨i, rfl, by omega, by omega, Lib.hid (fun q h1 h2 => by omega), Ext.refl _⟩
      case round =>
        clear S1
        obtain ⟨k, rfl, hik, hkn, HM, hx⟩ := hrel
        have cut1 := fun W => run_cut_lh T_rune (some ⟨b, off, none⟩) n cap (i : Int) (k : Int) i k rfl rfl hik (by omega) W
        rw [cut0] at cut1
        obtain ⟨r, hr⟩ : ∃ r, r = max k (i + 1) := ⟨_, rfl⟩
        by_cases hkl : k < n
        · obtain ⟨x, hxx⟩ : ∃ x, x = L.getD k 0 := ⟨_, rfl⟩
          have c1 := hcell.out k hik hkl wr hx
          rw [← hxx] at c1
          have gz : (k : Int) < (n : Int) := by omega
          have gd : decide ((k : Int) < (n : Int)) = true := decide_eq_true gz
          obtain ⟨cl, hcl⟩ : ∃ c, c = clsOf x := ⟨_, rfl⟩
          have C1 := Lib.hid (fun W => CL.out x W)
          rw [← hcl] at C1
          by_cases hc : 0 < cl
          · have HM2 := Lib.hid (show ∀ q, i ≤ q → q < k + 1 → 0 < clsOf (L.getD q 0) from fun q h1 h2 => by
              by_cases e : q = k
              · rw [e, ← hxx, ← hcl]; exact hc
              · exact HM.out q h1 (by omega))
            have w2 : IntKind.i64.wrap ((k : Int) + 1) = (k : Int) + 1 := IntWalk.i64_in _ (by omega)
            have hd : decide (0 < cl) = true := decide_eq_true hc
            clear hcl hxx HM hr
            go_wp2_with (go_at_call 7; refine (C1.out _).mono ?_; rintro e w' ⟨rfl, rfl⟩)
            go_roundw
            case rel => exact ⟨k + 1, by go_num, by omega, by omega, HM2, hx⟩
            case measure => simp [intOf]; omega
          · have hst : clsOf (L.getD k 0) = 0 := by rw [← hxx, ← hcl]; have := (clsOf_nn x).1; rw [← hcl] at this; omega
            have C2 := Lib.hid (STEP.out k wr hx hik hkn HM.out (.inr hst))
            have I2 := Lib.hid (INV.out k hik (by rw [hN.out]; exact hkn) HM.out (.inr hst))
            rw [← hr] at C2 I2
            have hd : decide (0 < cl) = false := decide_eq_false hc
            have er : max (k : Int) ((i : Int) + 1) = (r : Int) := by omega
            have er2 : (if (k : Int) < (i : Int) + 1 then ((i : Int) + 1) else (k : Int)) = (r : Int) := by split <;> omega
            have hr1 : i < r := by omega
            have hr2 : r ≤ n := by omega
            clear hcl hxx HM hr hst
            go_wp2_with (first
              | (go_at_call 7; ((with_reducible refine (C1.out _).mono ?_); rintro e w' ⟨rfl, rfl⟩))
              | (go_at_call 43; ((with_reducible refine C2.out.mono ?_); rintro e w5 ⟨rfl, k5⟩)))
            go_roundw
            case rel => exact ⟨r, by first | rfl | go_num, hr2, I2, Lib.hid k5⟩
            case measure => simp [intOf]; omega
        · have hkn' : k = n := by omega
          have gz : ¬ (k : Int) < (n : Int) := by omega
          have gd : decide ((k : Int) < (n : Int)) = false := decide_eq_false gz
          have C2 := Lib.hid (STEP.out k wr hx hik hkn HM.out (.inl hkn'))
          have I2 := Lib.hid (INV.out k hik (by rw [hN.out]; exact hkn) HM.out (.inl (by rw [hN.out]; exact hkn')))
          rw [← hr] at C2 I2
          have er : max (k : Int) ((i : Int) + 1) = (r : Int) := by omega
          have er2 : (if (k : Int) < (i : Int) + 1 then ((i : Int) + 1) else (k : Int)) = (r : Int) := by split <;> omega
          have hr1 : i < r := by omega
          have hr2 : r ≤ n := by omega
          clear HM hr hkn'
          go_wp2_with (go_at_call 43; ((with_reducible refine C2.out.mono ?_); rintro e w5 ⟨rfl, k5⟩))
          go_roundw
          case rel => exact ⟨r, by first | rfl | go_num, hr2, I2, Lib.hid k5⟩
          case measure => simp [intOf]; omega
    · have hS := S1.out
      rw [List.take_of_length_le (by have := hN.out; omega), List.drop_eq_nil_of_le (by have := hN.out; omega), List.append_nil] at hS
      go_wp2
      go_ret
      exact ⟨rfl, hS⟩

theorem sorted_nil (A : Option Addr) (cap : Nat) (w : World) : Calls Try.prog 28 #[.slice A 0 cap] w fun e w' => e = .returned (.slice A 0 cap) ∧ Ext w w' := by
  have hmf : ∀ (fn : Fn) (first cap : Array Value) (w : World), (Instr.makeFunc fn first cap).run Try.prog w = .ok (.func fn first cap) w := fun _ _ _ _ => rfl
  go_enter Try.func28, Try.ntmps28
  go_wp2
  go_loopw [3] (fun vi wr => vi = .int .i64 0 ∧ Ext w wr) (fun _ _ => 0)
  case atStart => exact ⟨rfl, Ext.refl _⟩
  case round =>
    obtain ⟨rfl, hx⟩ := hrel
    go_wp2
    go_ret
    exact ⟨rfl, hx⟩

end Go.Proofs.Ytbcmfebfcoedkaa
