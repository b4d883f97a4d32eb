/- Walk: a set out of edges (the document's Build). -/
import Derived.Test.YtfdkbhbnldcbmaaPl3
namespace Go.Proofs.Ytfdkbhbnldcbmaa
open Go.RowKit
set_option linter.unusedVariables false
set_option linter.unusedSimpArgs false

/-- A function value that tells a predicate on runes. -/
def PredR (g : FuncId) (caps : Array Value) (p : Int → Bool) (w : World) : Prop :=
  ∀ W (r : Int), Ext w W → i32 r → Calls Try.prog g (#[.int .i32 r] ++ caps) W fun e w' => e = .returned (.bool (p r)) ∧ Ext W w'

theorem buildL_cons (p : Int → Bool) (x : Int) (e : List Int) (o : List Sp) : buildL p (x :: e) o = buildL p e (if p x then addSpan o x (endOf e) else o) := rfl
theorem addSpan_nil (x y : Int) : addSpan [] x y = [⟨x, y⟩] := rfl
theorem addSpan_snoc (o : List Sp) (z : Sp) (x y : Int) : addSpan (o ++ [z]) x y = if z.hi + 1 = x then o ++ [⟨z.lo, y⟩] else o ++ [z] ++ [⟨x, y⟩] := by
  unfold addSpan; simp
theorem endOf_next {e : List Int} {k : Nat} {y : Int} (h : e[k]? = some y) : endOf (e.drop k) = y - 1 := by rw [drop_cons h]; rfl
theorem endOf_last {e : List Int} {k : Nat} (h : e.length ≤ k) : endOf (e.drop k) = 1114111 := by rw [List.drop_of_length_le h]; rfl
theorem rising_get {e : List Int} (h : e.Pairwise (· < ·)) {i j : Nat} {x y : Int} (hij : i < j) (hx : e[i]? = some x) (hy : e[j]? = some y) : x < y := by
  obtain ⟨hi, rfl⟩ := List.getElem?_eq_some_iff.1 hx
  obtain ⟨hj, rfl⟩ := List.getElem?_eq_some_iff.1 hy
  exact List.pairwise_iff_getElem.1 h i j hi hj hij
/-- what bounds what has been built ahead of place k -/
def lim (e : List Int) (k : Nat) : Int := (e[k]?).getD 1114112
theorem lim_some {e : List Int} {k : Nat} {y : Int} (h : e[k]? = some y) : lim e k = y := by unfold lim; rw [h]; rfl
theorem lim_none {e : List Int} {k : Nat} (h : e.length ≤ k) : lim e k = 1114112 := by unfold lim; rw [List.getElem?_eq_none h]; rfl
theorem Built.le' {o : List Sp} {a b : Int} (h : Built o a) (hab : a ≤ b) : Built o b := ⟨h.canon, fun x hx => by have := h.le x hx; omega⟩

set_option maxRecDepth 100000 in
set_option maxHeartbeats 4000000 in
theorem Build_any (A : Option Addr) (n c : Nat) (e : List Int) (g : FuncId) (caps : Array Value) (p : Int → Bool) (w : World) (h : Runes w A n c e) (he : EdgeL e)
    (eg : ∀ args w, (callFunc g args).run Try.prog w = .ok (.enter g args) w) (hp : PredR g caps p w) :
    Calls Try.prog 122 #[.slice A n c, .func (.func g) #[] caps] w fun e' w' => SetO (setOut 0 (buildL p e [])) w' e' ∧ Ext w w' := by
  have HP := Lib.hid hp; clear hp
  have hlen := Lib.hid h.len
  have hcap := h.cap
  have hmax := h.max
  unfold maxLen at hmax
  have HE := Lib.hid he; clear he
  go_enter Try.func122, Try.ntmps122
  go_wp2
  go_loopw [6, 13] (fun v i wr => ∃ (k : Nat) (o : List Sp), k ≤ n ∧ i = .int .i64 k ∧ Hid (buildL p e [] = buildL p (e.drop k) o) ∧ Hid (Built o (lim e k)) ∧ OwnR rSpan 80 2 w.heap.size wr v o ∧ Ext w wr) (fun _ i _ => n - (intOf i).toNat)
  case atStart => exact ⟨0, [], by omega, rfl, Lib.hid rfl, Lib.hid ⟨Canon.nil, fun x hx => by simp at hx⟩, OwnR.nil _ _ _ _ _, Ext.refl _⟩
  case round =>
    obtain ⟨k, o, hk, rfl, HK, HB, ow, hx⟩ := hrel
    by_cases hlt : k < n
    · obtain ⟨x, hxx⟩ := h.idx hlt
      obtain ⟨b, off, rfl, _, hc, hi1, hi2⟩ := (h.ext hx).rune hxx
      obtain ⟨hx0, hx1⟩ := HE.out.rng x (List.mem_of_getElem? hxx)
      have HC := Lib.hid (HP.out wr x hx ⟨hi1, hi2⟩)
      have HBx : Hid (Built o x) := Lib.hid (by have := HB.out; rw [lim_some hxx] at this; exact this)
      have HD := Lib.hid (drop_cons hxx)
      have hnx : ∃ E : Int, x ≤ E ∧ E ≤ 1114111 ∧ Hid (endOf (e.drop (k + 1)) = E) ∧ Hid (lim e (k + 1) = E + 1) ∧
          ((k + 1 < n ∧ ∃ y : Int, (h.ext hx).len = (h.ext hx).len ∧ wr.cell? ⟨b, off + (k + 1), none⟩ = some (.int .i32 y) ∧ 1 ≤ y ∧ y ≤ 1114111 ∧ E = y - 1) ∨ (¬ k + 1 < n ∧ E = 1114111)) := by
        by_cases hn1 : k + 1 < n
        · obtain ⟨y, hyy⟩ := h.idx hn1
          obtain ⟨b', off', e', _, hc', _⟩ := (h.ext hx).rune hyy
          cases e'
          have h1 := rising_get HE.out.pw (Nat.lt_succ_self k) hxx hyy
          have h2 := HE.out.rng y (List.mem_of_getElem? hyy)
          exact ⟨y - 1, by omega, by omega, Lib.hid (endOf_next hyy), Lib.hid (by rw [lim_some hyy]; omega), .inl ⟨hn1, y, rfl, hc', by omega, by omega, rfl⟩⟩
        · have hle : e.length ≤ k + 1 := by rw [hlen.out]; omega
          exact ⟨1114111, by omega, by omega, Lib.hid (endOf_last hle), Lib.hid (lim_none hle), .inr ⟨hn1, rfl⟩⟩
      obtain ⟨E, hE1, hE2, HN, HL, hcase⟩ := hnx
      clear hxx HB
      cases hpx : p x
      · have HK2 : Hid (buildL p e [] = buildL p (e.drop (k + 1)) o) := Lib.hid (by rw [HK.out, HD.out, buildL_cons, hpx, if_neg (by simp)])
        have HB2 : Hid (Built o (lim e (k + 1))) := Lib.hid (by rw [HL.out]; exact HBx.out.le' (by omega))
        clear hcase
        have HPX := Lib.hid hpx; clear hpx
        go_wp2
        refine HC.out.mono ?_
        rintro e' w1 ⟨rfl, x1⟩
        rw [HPX.out]
        go_wp2
        go_roundw
        case rel => exact ⟨k + 1, o, by omega, by go_num, HK2, HB2, ow.ext (keep_span bot) x1, hx.trans x1⟩
        case measure => simp [intOf]; omega
      · have HK2 : Hid (buildL p e [] = buildL p (e.drop (k + 1)) (addSpan o x E)) := Lib.hid (by rw [HK.out, HD.out, buildL_cons, hpx, if_pos rfl, HN.out])
        have HB2 : Hid (Built (addSpan o x E) (lim e (k + 1))) := Lib.hid (by rw [HL.out]; exact addSpan_built HBx.out hx0 hE1 hE2)
        have HPX := Lib.hid hpx; clear hpx HK HN HL HP
        have hX : i32 x := ⟨hi1, hi2⟩
        have hE32 : i32 E := ⟨by omega, by omega⟩
        have hcan := HBx.out.canon
        have hol := hcan.len
        have hle := HBx.out.le
        have hmem : ∀ o' z, o = o' ++ [z] → 0 ≤ z.lo ∧ z.lo ≤ z.hi ∧ z.hi < x := fun o' z ho => by
          have := hcan.rng z (by rw [ho]; simp)
          have := hle z (by rw [ho]; simp)
          omega
        have HM := Lib.hid hmem
        have hE0 : 0 ≤ E := by omega
        clear hcan hle hmem HBx
        rcases hcase with ⟨hn1, y, _, hcy, hy1, hy2, rfl⟩ | ⟨hn1, rfl⟩
        case inl =>
          rcases List.eq_nil_or_concat o with rfl | ⟨o, z, rfl⟩
          · rw [addSpan_nil] at HK2 HB2
            obtain ⟨AO, cO, rfl, hcO, hmO⟩ := ow.form
            simp only [List.length_nil] at hcO ow
            go_wp2
            refine HC.out.mono ?_
            rintro e' w1 ⟨rfl, x1⟩
            rw [HPX.out]
            have hcy1 := x1.cell hcy
            have ow1 := (ow.ext (keep_span bot) x1).ext (keep_span bot) ((Ext.refl w1).alloc (.cells #[.int .i32 x, .int .i32 (y - 1)] 80))
            have s6 := span_new w1 ⟨x, y - 1⟩ 80 hX hE32
            have hx6 := (hx.trans x1).alloc (.cells #[.int .i32 x, .int .i32 (y - 1)] 80)
            go_wp2_with (at_builtin
                         refine wpList_appS T_span (by omega) rfl (.tmp 53) (.tmp 57) rfl rfl ow1 rfl s6 (fun _ _ h => h) one_span (keep_span bot) (bot_no _) ?_ hx6.size ?_
                         · simp
                         intro v7 w7 o7 g7 hat7
                         have g8 := hx6.app g7 ow1)
            go_roundw
            case rel => exact ⟨k + 1, _, by omega, by go_num, HK2, HB2, o7, g8⟩
            case measure => simp [intOf]; omega
          · rw [List.concat_eq_append] at *
            obtain ⟨hz1, hz2, hz3⟩ := HM.out o z rfl
            clear HM
            rw [addSpan_snoc] at HK2 HB2
            obtain ⟨AO, cO, rfl, hcO, hmO⟩ := ow.form
            obtain ⟨g0, rfl, hl1⟩ := ow.head
            simp only [List.length_append, List.length_cons, List.length_nil, Nat.zero_add] at ow hcO hol
            have q1 : (o.length : Int) < (o.length : Int) + 1 := by omega
            by_cases t : z.hi + 1 = x
            · rw [if_pos t] at HK2 HB2
              have t' : (z.hi + 1 == x) = true := by simpa using t
              clear t
              go_wp2
              refine HC.out.mono ?_
              rintro e' w1 ⟨rfl, x1⟩
              rw [HPX.out]
              have hcy1 := x1.cell hcy
              have ow1 := ow.ext (keep_span bot) x1
              obtain ⟨A9, c9, e9, s9⟩ := ow1.sl
              obtain ⟨_, _, e8, ⟨hg, _⟩, z0, z1, _, zb⟩ := s9.span (k := o.length) (x := z) (by simp)
              have hfz := (ow1.loose rfl).2
              have hbase := (ow1.loose rfl).1
              simp only [Value.slice.injEq] at e9
              obtain ⟨rfl, q9, rfl⟩ := e9
              clear q9
              cases e8
              simp only [Nat.zero_add] at z0 z1
              have hx1 := hx.trans x1
              go_wp2
              exact ⟨⟨k + 1, _, by omega, by go_num, HK2, HB2, ow1.setLast rfl hE32, ext_set hx1 hbase _ _⟩, by simp [intOf]; omega⟩
            · rw [if_neg t] at HK2 HB2
              have t' : (z.hi + 1 == x) = false := by simpa using t
              clear t
              go_wp2
              refine HC.out.mono ?_
              rintro e' w1 ⟨rfl, x1⟩
              rw [HPX.out]
              have hcy1 := x1.cell hcy
              have ow1 := ow.ext (keep_span bot) x1
              obtain ⟨A9, c9, e9, s9⟩ := ow1.sl
              obtain ⟨_, _, e8, ⟨hg, _⟩, z0, z1, _, zb⟩ := s9.span (k := o.length) (x := z) (by simp)
              simp only [Value.slice.injEq] at e9
              obtain ⟨rfl, q9, rfl⟩ := e9
              clear q9
              cases e8
              simp only [Nat.zero_add] at z0 z1
              have ow6 := ow1.ext (keep_span bot) ((Ext.refl w1).alloc (.cells #[.int .i32 x, .int .i32 (y - 1)] 80))
              have s6 := span_new w1 ⟨x, y - 1⟩ 80 hX hE32
              have hx6 := (hx.trans x1).alloc (.cells #[.int .i32 x, .int .i32 (y - 1)] 80)
              go_wp2_with (at_builtin
                           refine wpList_app T_span rfl (.tmp 53) (.tmp 57) rfl rfl ow6 rfl s6 (fun _ _ h => h) one_span (keep_span bot) (bot_no _) ?_ ?_ hx6.size ?_
                           · simp only [List.length_append, List.length_cons, List.length_nil]; omega
                           · simp only [List.length_append, List.length_cons, List.length_nil]; unfold maxLen; omega
                           intro v7 w7 o7 g7 hat7
                           have g8 := hx6.app g7 ow6)
              go_roundw
              case rel => exact ⟨k + 1, _, by omega, by go_num, HK2, HB2, o7, g8⟩
              case measure => simp [intOf]; omega
        case inr =>
          rcases List.eq_nil_or_concat o with rfl | ⟨o, z, rfl⟩
          · rw [addSpan_nil] at HK2 HB2
            obtain ⟨AO, cO, rfl, hcO, hmO⟩ := ow.form
            simp only [List.length_nil] at hcO ow
            go_wp2
            refine HC.out.mono ?_
            rintro e' w1 ⟨rfl, x1⟩
            rw [HPX.out]
            have ow1 := (ow.ext (keep_span bot) x1).ext (keep_span bot) ((Ext.refl w1).alloc (.cells #[.int .i32 x, .int .i32 (1114111)] 80))
            have s6 := span_new w1 ⟨x, 1114111⟩ 80 hX hE32
            have hx6 := (hx.trans x1).alloc (.cells #[.int .i32 x, .int .i32 (1114111)] 80)
            go_wp2_with (at_builtin
                         refine wpList_appS T_span (by omega) rfl (.tmp 53) (.tmp 57) rfl rfl ow1 rfl s6 (fun _ _ h => h) one_span (keep_span bot) (bot_no _) ?_ hx6.size ?_
                         · simp
                         intro v7 w7 o7 g7 hat7
                         have g8 := hx6.app g7 ow1)
            go_roundw
            case rel => exact ⟨k + 1, _, by omega, by go_num, HK2, HB2, o7, g8⟩
            case measure => simp [intOf]; omega
          · rw [List.concat_eq_append] at *
            obtain ⟨hz1, hz2, hz3⟩ := HM.out o z rfl
            clear HM
            rw [addSpan_snoc] at HK2 HB2
            obtain ⟨AO, cO, rfl, hcO, hmO⟩ := ow.form
            obtain ⟨g0, rfl, hl1⟩ := ow.head
            simp only [List.length_append, List.length_cons, List.length_nil, Nat.zero_add] at ow hcO hol
            have q1 : (o.length : Int) < (o.length : Int) + 1 := by omega
            by_cases t : z.hi + 1 = x
            · rw [if_pos t] at HK2 HB2
              have t' : (z.hi + 1 == x) = true := by simpa using t
              clear t
              go_wp2
              refine HC.out.mono ?_
              rintro e' w1 ⟨rfl, x1⟩
              rw [HPX.out]
              have ow1 := ow.ext (keep_span bot) x1
              obtain ⟨A9, c9, e9, s9⟩ := ow1.sl
              obtain ⟨_, _, e8, ⟨hg, _⟩, z0, z1, _, zb⟩ := s9.span (k := o.length) (x := z) (by simp)
              have hfz := (ow1.loose rfl).2
              have hbase := (ow1.loose rfl).1
              simp only [Value.slice.injEq] at e9
              obtain ⟨rfl, q9, rfl⟩ := e9
              clear q9
              cases e8
              simp only [Nat.zero_add] at z0 z1
              have hx1 := hx.trans x1
              go_wp2
              exact ⟨⟨k + 1, _, by omega, by go_num, HK2, HB2, ow1.setLast rfl hE32, ext_set hx1 hbase _ _⟩, by simp [intOf]; omega⟩
            · rw [if_neg t] at HK2 HB2
              have t' : (z.hi + 1 == x) = false := by simpa using t
              clear t
              go_wp2
              refine HC.out.mono ?_
              rintro e' w1 ⟨rfl, x1⟩
              rw [HPX.out]
              have ow1 := ow.ext (keep_span bot) x1
              obtain ⟨A9, c9, e9, s9⟩ := ow1.sl
              obtain ⟨_, _, e8, ⟨hg, _⟩, z0, z1, _, zb⟩ := s9.span (k := o.length) (x := z) (by simp)
              simp only [Value.slice.injEq] at e9
              obtain ⟨rfl, q9, rfl⟩ := e9
              clear q9
              cases e8
              simp only [Nat.zero_add] at z0 z1
              have ow6 := ow1.ext (keep_span bot) ((Ext.refl w1).alloc (.cells #[.int .i32 x, .int .i32 (1114111)] 80))
              have s6 := span_new w1 ⟨x, 1114111⟩ 80 hX hE32
              have hx6 := (hx.trans x1).alloc (.cells #[.int .i32 x, .int .i32 (1114111)] 80)
              go_wp2_with (at_builtin
                           refine wpList_app T_span rfl (.tmp 53) (.tmp 57) rfl rfl ow6 rfl s6 (fun _ _ h => h) one_span (keep_span bot) (bot_no _) ?_ ?_ hx6.size ?_
                           · simp only [List.length_append, List.length_cons, List.length_nil]; omega
                           · simp only [List.length_append, List.length_cons, List.length_nil]; unfold maxLen; omega
                           intro v7 w7 o7 g7 hat7
                           have g8 := hx6.app g7 ow6)
              go_roundw
              case rel => exact ⟨k + 1, _, by omega, by go_num, HK2, HB2, o7, g8⟩
              case measure => simp [intOf]; omega
    · have HV : Hid (buildL p e [] = o) := Lib.hid (by rw [HK.out, drop_end hlen.out hlt]; rfl)
      clear HK HB
      obtain ⟨A3, c3, rfl, s3⟩ := ow.top
      have hc3 := s3.cap
      have hm3 := s3.max
      unfold maxLen at hm3
      by_cases hbig : 200 < o.length
      · have HO : Hid (setOut 0 (buildL p e []) = ([], 5)) := Lib.hid (by rw [HV.out]; exact setOut_big hbig)
        go_wp2
        go_ret2
        exact ⟨SetR.pair HO.out (SetR.no rfl rfl), hx⟩
      · have HO : Hid (setOut 0 (buildL p e []) = (o, 0)) := Lib.hid (by rw [HV.out]; exact setOut_ok hbig)
        go_wp2
        go_ret2
        exact ⟨SetR.pair HO.out ⟨A3, c3, rfl, s3⟩, hx⟩

end Go.Proofs.Ytfdkbhbnldcbmaa
