/- Walk: norm's full: a letter taken apart as far as it goes. -/
import Derived.Test.YtbcmfebfcoedkaaZ17
namespace Go.Proofs.Ytbcmfebfcoedkaa
open Go.RowKit Go.Maps Go.WideMaps Go.ChangeMaps
set_option linter.unusedVariables false
set_option linter.unusedSimpArgs false

theorem one_newR (w : World) (x : Int) (t : TypeId) (hx : i32 x) : Runes (w.alloc (.cells #[.int .i32 x] t)) (some ⟨w.heap.size, 0, none⟩) 1 1 [x] := by
  refine SlR.fresh rfl (by unfold maxLen; omega) fun k u huu => ?_
  match k, huu with
  | 0, huu =>
    have := Option.some.inj huu
    subst this
    refine ⟨[.int .i32 x], rfl, ⟨rfl, hx⟩, fun j u hu => ?_⟩
    match j, hu with
    | 0, hu => exact hu
theorem look_none {w : World} {b : Nat} {r : Int} (h : MapAt w b (kvA pairsL)) (hr : i32 r) (hf : fw r = none) :
    (Instr.lookup 54 (.map (some b)) (.int .i32 r) true).run Try.prog w = .ok (.tuple #[.agg #[.int .i32 0, .int .i32 0, .int .i32 0], .bool false]) w := by
  rcases h.look lawA Try.underlying54 (z := .agg #[.int .i32 0, .int .i32 0, .int .i32 0]) (fun w => by kernel_rfl) (keysA fun _ h => h) (keyA hr) with ⟨_, h2⟩ | ⟨p, hp, h1, h2⟩
  · exact h2
  · obtain ⟨q, hq, rfl⟩ := List.mem_map.1 hp
    have e : q.whole = r := by simpa using h1
    have := fw_of hq
    rw [e, hf] at this
    cases this
theorem look_some {w : World} {b : Nat} {r : Int} {p : Pr} (h : MapAt w b (kvA pairsL)) (hr : i32 r) (hf : fw r = some p) :
    (Instr.lookup 54 (.map (some b)) (.int .i32 r) true).run Try.prog w = .ok (.tuple #[vP p, .bool true]) w := by
  rcases h.look lawA Try.underlying54 (z := .agg #[.int .i32 0, .int .i32 0, .int .i32 0]) (fun w => by kernel_rfl) (keysA fun _ h => h) (keyA hr) with ⟨h1, _⟩ | ⟨q', hp, h1, h2⟩
  · obtain ⟨hm, e⟩ := fw_mem hf
    exact absurd (by rw [e]) (h1 _ (List.mem_map.2 ⟨p, hm, rfl⟩))
  · obtain ⟨q, hq, rfl⟩ := List.mem_map.1 hp
    have e : q.whole = r := by simpa using h1
    have := fw_of hq
    rw [e, hf] at this
    rw [Option.some.inj this]
    exact h2

theorem fullD_len : ∀ (d : Nat) (r : Int), (fullD d r).length ≤ d + 1
  | 0, r => by simp [fullD]
  | d + 1, r => by
    cases h : fw r with
    | none => simp [fullD, h]
    | some p =>
      have := fullD_len d p.base
      simp [fullD, h]; omega

/-- what a call of full leaves -/
structure FullR (a w : World) (v : Value) (l : List Int) (e : Ending) (w' : World) : Prop where
  ret : ∃ v', e = .returned v' ∧ OwnR rRune 21 1 a.heap.size w' v' l ∧ ∀ g, v'.ownBlock = some g → v.ownBlock = some g ∨ w.heap.size ≤ g
  ext : Ext a w'
  agree : Agree (fun b => v.ownBlock ≠ some b) w w'
  size : w.heap.size ≤ w'.heap.size

theorem Agree.trans' {ok : Nat → Prop} {a b c : World} (h : Agree ok a b) (k : Agree ok b c) (hs : a.heap.size ≤ b.heap.size) : Agree ok a c := fun q hq hb => (k q hq (by omega)).trans (h q hq hb)
theorem own_none {w0 w' : World} {v v' : Value} {H : Nat} (hat : v'.ownBlock = v.ownBlock ∨ v'.ownBlock = some H) (hH : w0.heap.size ≤ H) : ∀ g, v'.ownBlock = some g → v.ownBlock = some g ∨ w0.heap.size ≤ g := by
  intro g hg
  rcases hat with e | e
  · left; rw [← e]; exact hg
  · right; have := Option.some.inj (e.symm.trans hg); omega

set_option maxRecDepth 1000000 in
set_option maxHeartbeats 6400000 in
theorem full_none (a : World) (b1 b2 : Nat) (hA : MapAt a b1 (kvA pairsL)) (r : Int) (w : World) (v : Value) (l : List Int) (hf : fw r = none) (hr : i32 r) (hx : Ext a w) (ho : OwnR rRune 21 1 a.heap.size w v l) (hlen : l.length ≤ 59000) :
    Calls Try.prog 27 #[.agg #[.map (some b1), .map (some b2)], v, .int .i32 r] w fun e w' => FullR a w v (l ++ [r]) e w' := by
  have LK := look_none ((hA.ext hx).ext ((Ext.refl w).alloc (.cells #[.map (some b1), .map (some b2)] 57))) hr hf
  have e2 := ((Ext.refl w).alloc (.cells #[.map (some b1), .map (some b2)] 57)).alloc (.cells #[.int .i32 0, .int .i32 0, .int .i32 0] 27)
  have e3 := e2.alloc (.cells #[.int .i32 r] 21)
  have O3 := Lib.hid (ho.ext (keep_rune top) e3)
  have X3 := Lib.hid (hx.trans e3)
  have S3 := Lib.hid (one_newR ((w.alloc (.cells #[.map (some b1), .map (some b2)] 57)).alloc (.cells #[.int .i32 0, .int .i32 0, .int .i32 0] 27)) r 21 hr)
  have E3 := Lib.hid e3
  have HL := Lib.hid hlen
  have HV := Lib.hid (fun g hg => (ho.lt g hg).2)
  clear hf ho hx hA e2 e3
  go_enter Try.func27, Try.ntmps27
  go_upto_region 3 with fail
  have hBe : ((w.alloc (.cells #[.map (some b1), .map (some b2)] 57)).alloc (.cells #[.int .i32 0, .int .i32 0, .int .i32 0] 27)).heap.size = w.heap.size + 1 + 1 := by simp
  have hB := Lib.hid hBe; clear hBe
  generalize (w.alloc (.cells #[.map (some b1), .map (some b2)] 57)).alloc (.cells #[.int .i32 0, .int .i32 0, .int .i32 0] 27) = w2 at *
  go_wp2_with (refine wpList_appS T_rune (by omega) rfl (.tmp 18) (.tmp 20) rfl rfl O3.out rfl S3.out (fun _ _ h => h) one_rune (keep_rune bot) (bot_no _) (by have := HL.out; omega) X3.out.size ?_; intro v4 w4 o4 g4 hat4; have x4 := Lib.hid (X3.out.app g4 O3.out); have G4 := Lib.hid g4; have O4 := Lib.hid o4; have H4 := Lib.hid hat4; clear o4 g4 hat4)
  go_ret
  have hs := E3.out.size
  exact ⟨⟨v4, rfl, O4.out, own_none (w' := w4) H4.out hs⟩, x4.out, agree_app (E3.out.agree _) hs G4.out (fun g hg => .inl (fun h => h hg)), Nat.le_trans hs G4.out.size⟩

theorem fullTail {w w2 W w4 : World} {v v3 v4 : Value} (hs : w.heap.size ≤ w2.heap.size) (A2 : Agree (fun b => v.ownBlock ≠ some b) w w2) (AA : Agree (fun b => v.ownBlock ≠ some b) w2 W) (ZA : w2.heap.size ≤ W.heap.size)
    (NA : ∀ g, v3.ownBlock = some g → v.ownBlock = some g ∨ w2.heap.size ≤ g) (g4 : W.grownBy w4 v3.ownBlock) (hat : v4.ownBlock = v3.ownBlock ∨ v4.ownBlock = some W.heap.size) :
    Agree (fun b => v.ownBlock ≠ some b) w2 w4 ∧ Agree (fun b => v.ownBlock ≠ some b) w w4 ∧ w.heap.size ≤ w4.heap.size ∧ ∀ g, v4.ownBlock = some g → v.ownBlock = some g ∨ w.heap.size ≤ g := by
  have B4 := agree_app AA ZA g4 (fun g hg => by
    rcases NA g hg with h | h
    · exact .inl (fun k => k h)
    · exact .inr h)
  refine ⟨B4, A2.trans' B4 hs, Nat.le_trans hs (Nat.le_trans ZA g4.size), fun g hg => ?_⟩
  rcases hat with h | h
  · rcases NA g (h ▸ hg) with k | k
    · exact .inl k
    · exact .inr (by omega)
  · right; have := Option.some.inj (h.symm.trans hg); omega

structure FullStart (a w w2 : World) (b1 b2 : Nat) (p : Pr) (r : Int) (v : Value) (l : List Int) : Prop where
  ext : Ext w w2
  c0 : w2.cell? ⟨w.heap.size, 0, none⟩ = some (.map (some b1))
  c1 : w2.cell? ⟨w.heap.size, 1, none⟩ = some (.map (some b2))
  d0 : w2.cell? ⟨w.heap.size + 1, 0, none⟩ = some (.int .i32 p.base)
  d1 : w2.cell? ⟨w.heap.size + 1, 1, none⟩ = some (.int .i32 p.mark)
  size : w2.heap.size = w.heap.size + 1 + 1
theorem fullStart (a w : World) (b1 b2 : Nat) (p : Pr) (r : Int) (v : Value) (l : List Int) :
    FullStart a w ((w.alloc (.cells #[.map (some b1), .map (some b2)] 57)).alloc (.cells #[.int .i32 p.base, .int .i32 p.mark, .int .i32 r] 27)) b1 b2 p r v l := by
  have c0 : (w.alloc (.cells #[.map (some b1), .map (some b2)] 57)).cell? ⟨w.heap.size, 0, none⟩ = some (.map (some b1)) := cell_new _ _ _ _ _ rfl
  have c1 : (w.alloc (.cells #[.map (some b1), .map (some b2)] 57)).cell? ⟨w.heap.size, 1, none⟩ = some (.map (some b2)) := cell_new _ _ _ _ _ rfl
  have e1 : (w.alloc (.cells #[.map (some b1), .map (some b2)] 57)).heap.size = w.heap.size + 1 := by simp
  have x1 := (Ext.refl w).alloc (.cells #[.map (some b1), .map (some b2)] 57)
  generalize w.alloc (.cells #[.map (some b1), .map (some b2)] 57) = W1 at *
  have d0 : (W1.alloc (.cells #[.int .i32 p.base, .int .i32 p.mark, .int .i32 r] 27)).cell? ⟨W1.heap.size, 0, none⟩ = some (.int .i32 p.base) := cell_new _ _ _ _ _ rfl
  have d1 : (W1.alloc (.cells #[.int .i32 p.base, .int .i32 p.mark, .int .i32 r] 27)).cell? ⟨W1.heap.size, 1, none⟩ = some (.int .i32 p.mark) := cell_new _ _ _ _ _ rfl
  have x2 := (Ext.refl W1).alloc (.cells #[.int .i32 p.base, .int .i32 p.mark, .int .i32 r] 27)
  rw [e1] at d0 d1
  exact ⟨x1.trans x2, x2.cell c0, x2.cell c1, d0, d1, by simp [e1]⟩

set_option maxRecDepth 1000000 in
set_option maxHeartbeats 6400000 in
theorem full_any (a : World) (b1 b2 : Nat) (hA : MapAt a b1 (kvA pairsL)) : ∀ (d : Nat) (r : Int) (w : World) (v : Value) (l : List Int), lvl d r = true → i32 r → Ext a w → OwnR rRune 21 1 a.heap.size w v l → l.length + d ≤ 59000 →
    Calls Try.prog 27 #[.agg #[.map (some b1), .map (some b2)], v, .int .i32 r] w fun e w' => FullR a w v (l ++ fullD d r) e w' := by
  intro d
  induction d with
  | zero =>
    intro r w v l hl hr hx ho hlen
    have hf : fw r = none := by simpa [lvl] using hl
    exact full_none a b1 b2 hA r w v l hf hr hx ho (by omega)
  | succ d ih =>
    intro r w v l hl hr hx ho hlen
    cases hf : fw r with
    | none =>
      have := full_none a b1 b2 hA r w v l hf hr hx ho (by omega)
      simpa [fullD, hf] using this
    | some p =>
      obtain ⟨hpm, hpw⟩ := fw_mem hf
      have hlp : lvl d p.base = true := by simpa [lvl, hf] using hl
      have hpi := pairs_i32 hpm
      have LK := look_some ((hA.ext hx).ext ((Ext.refl w).alloc (.cells #[.map (some b1), .map (some b2)] 57))) hr hf
      unfold vP at LK
      have HT := Lib.hid (show l ++ fullD (d + 1) r = (l ++ fullD d p.base) ++ [p.mark] by simp [fullD, hf])
      have hll : (fullD d p.base).length ≤ d + 1 := fullD_len d p.base
      have IH := Lib.hid (fun W (e : Ext a W) (o : OwnR rRune 21 1 a.heap.size W v l) => ih p.base W v l hlp hpi.1 e o (by omega))
      have ST := Lib.hid (fullStart a w b1 b2 p r v l)
      have HV := Lib.hid (fun g hg => (ho.lt g hg).2)
      have HO := Lib.hid ho; have HX := Lib.hid hx
      have HM := Lib.hid hpi.2.1
      rw [hpw] at LK
      rw [HT.out]
      have HLL := Lib.hid (show (l ++ fullD d p.base).length ≤ 59000 by simp; omega)
      clear hl hf ih hlp ho hx hA HT hpw hpi hll hpm
      generalize hL : l ++ fullD d p.base = L1 at *
      obtain ⟨pm, hpm⟩ : ∃ q, p.mark = q := ⟨_, rfl⟩
      obtain ⟨pb, hpb⟩ : ∃ q, p.base = q := ⟨_, rfl⟩
      have HPM := Lib.hid hpm; have HPB := Lib.hid hpb
      have HW := Lib.hid (show (w.alloc (.cells #[.map (some b1), .map (some b2)] 57)).alloc (.cells #[.int .i32 p.base, .int .i32 p.mark, .int .i32 r] 27) = (w.alloc (.cells #[.map (some b1), .map (some b2)] 57)).alloc (.cells #[.int .i32 pb, .int .i32 pm, .int .i32 r] 27) by rw [hpm, hpb])
      rw [HW.out] at ST
      rw [hpm, hpb] at LK
      rw [hpm]
      clear hpm hpb HW hL
      go_enter Try.func27, Try.ntmps27
      go_wp2
      generalize (w.alloc (.cells #[.map (some b1), .map (some b2)] 57)).alloc (.cells #[.int .i32 pb, .int .i32 pm, .int .i32 r] 27) = w2 at *
      obtain ⟨s0, s1, s2, s3, s4, s5⟩ := ST.out
      have X2 := Lib.hid (HX.out.trans s0)
      have O2 := Lib.hid (HO.out.ext (keep_rune top) s0)
      have A2 := Lib.hid (s0.agree (fun b => v.ownBlock ≠ some b))
      have HS := Lib.hid s5
      have KC := Lib.hid (fun W (ag : Agree (fun b => v.ownBlock ≠ some b) w2 W) => show W.cell? ⟨w.heap.size, 0, none⟩ = some (.map (some b1)) ∧ W.cell? ⟨w.heap.size, 1, none⟩ = some (.map (some b2)) ∧ W.cell? ⟨w.heap.size + 1, 0, none⟩ = some (.int .i32 p.base) ∧ W.cell? ⟨w.heap.size + 1, 1, none⟩ = some (.int .i32 p.mark) from
        have n0 : v.ownBlock ≠ some w.heap.size := by intro e; have := HV.out _ e; omega
        have n1 : v.ownBlock ≠ some (w.heap.size + 1) := by intro e; have := HV.out _ e; omega
        ⟨ag.cellAt n0 s1, ag.cellAt n0 s2, ag.cellAt n1 s3, ag.cellAt n1 s4⟩)
      have n2 : v.ownBlock ≠ some w2.heap.size := by intro e; have := HV.out _ e; omega
      have N2 := Lib.hid n2
      have hlt1 : w.heap.size < w2.heap.size ∧ w.heap.size ≠ w2.heap.size ∧ w.heap.size + 1 < w2.heap.size ∧ w.heap.size + 1 ≠ w2.heap.size := by omega
      obtain ⟨l1, l2, l3, l4⟩ := hlt1
      clear n2 ST s0 s5 HO HX
      -- the call ahead of the new slice
      have CA := Lib.hid (IH.out w2.drew X2.out.drew (O2.out.ext (keep_rune top) (Ext.refl w2).drew))
      -- the new slice ahead of the call
      have eB := ((Ext.refl w2).alloc (.cells #[.int .i32 p.mark] 21)).drew
      have CB := Lib.hid (IH.out (w2.alloc (.cells #[.int .i32 p.mark] 21)).drew (X2.out.trans eB) (O2.out.ext (keep_rune top) eB))
      have SB := Lib.hid (slr_ok (ok' := fun b => v.ownBlock ≠ some b) ((one_newR w2 p.mark 21 HM.out).ext (Ext.refl _).drew) N2.out)
      have EB := Lib.hid eB
      clear eB IH
      rw [HPB.out] at s3 CA CB
      rw [HPM.out] at s4 CB SB EB HM
      rw [HPB.out, HPM.out] at KC
      go_region_held3 (fun w' => w'.cell? ⟨w.heap.size, 0, none⟩ = some (.map (some b1)) ∧ w'.cell? ⟨w.heap.size, 1, none⟩ = some (.map (some b2)) ∧ w'.cell? ⟨w.heap.size + 1, 0, none⟩ = some (.int .i32 pb) ∧ w'.cell? ⟨w.heap.size + 1, 1, none⟩ = some (.int .i32 pm))
        (first | go_keep | exact K3 | exact K4)
        (first
          | (go_at_call 27
             (with_reducible refine CA.out.mono ?_)
             rintro e w3 ⟨⟨v3, rfl, o3, n3⟩, x3, a3, z3⟩
             have K3 := KC.out w3 a3
             have y3 := (Ext.refl w3).alloc (.cells #[.int .i32 pm] 21)
             have OA := Lib.hid (o3.ext (keep_rune top) y3)
             have XA := Lib.hid (x3.trans y3)
             have AA := Lib.hid (show Agree (fun b => v.ownBlock ≠ some b) w2 _ from Agree.trans' (b := w3) a3 (y3.agree _) z3)
             have SA := Lib.hid (one_newR w3 pm 21 HM.out)
             have ZA := Lib.hid (show w2.heap.size ≤ (w3.alloc (.cells #[.int .i32 pm] 21)).heap.size from Nat.le_trans z3 y3.size)
             have NA := Lib.hid (show ∀ g, v3.ownBlock = some g → v.ownBlock = some g ∨ w2.heap.size ≤ g from n3)
             clear o3 n3 x3 a3 z3 y3)
          | (go_at_call 27
             (with_reducible refine CB.out.mono ?_)
             rintro e w3 ⟨⟨v3, rfl, o3, n3⟩, x3, a3, z3⟩
             have a3' := (EB.out.agree (fun b => v.ownBlock ≠ some b)).trans' a3 EB.out.size
             have K3 := KC.out w3 a3'
             have OA := Lib.hid o3
             have XA := Lib.hid x3
             have z3' : w2.heap.size ≤ w3.heap.size := Nat.le_trans EB.out.size z3
             have AA := Lib.hid (show Agree (fun b => v.ownBlock ≠ some b) w2 w3 from a3')
             have SB3 := Lib.hid (SB.out.keep (keep_rune _) a3)
             have ZA := Lib.hid z3'
             have NA := Lib.hid (show ∀ g, v3.ownBlock = some g → v.ownBlock = some g ∨ w2.heap.size ≤ g from fun g hg => (n3 g hg).imp id (fun h => Nat.le_trans EB.out.size h))
             clear o3 n3 x3 a3 z3 a3' z3')
          | (refine step_appS T_rune (by omega) rfl (.tmp 26) (.tmp 29) rfl rfl OA.out rfl SA.out (fun _ _ h => h) one_rune (keep_rune bot) (bot_no _) ?_ XA.out.size ?_
             · have := HLL.out; omega
             intro v4 w4 o4 g4 hat4
             have O4 := Lib.hid o4
             have x4 := Lib.hid (XA.out.app g4 OA.out)
             have FT := fullTail (Nat.le_of_lt l1) A2.out AA.out ZA.out NA.out g4 hat4
             have A4 := Lib.hid FT.2.1
             have Z4 := Lib.hid FT.2.2.1
             have N4 := Lib.hid FT.2.2.2
             have K4 := KC.out w4 FT.1
             clear o4 g4 hat4 FT)
          | (refine step_appS T_rune (by omega) rfl (.tmp 26) (.tmp 29) rfl rfl OA.out rfl SB3.out (fun _ _ h => h) one_rune (keep_rune bot) (bot_no _) ?_ XA.out.size ?_
             · have := HLL.out; omega
             intro v4 w4 o4 g4 hat4
             have O4 := Lib.hid o4
             have x4 := Lib.hid (XA.out.app g4 OA.out)
             have FT := fullTail (Nat.le_of_lt l1) A2.out AA.out ZA.out NA.out g4 hat4
             have A4 := Lib.hid FT.2.1
             have Z4 := Lib.hid FT.2.2.1
             have N4 := Lib.hid FT.2.2.2
             have K4 := KC.out w4 FT.1
             clear o4 g4 hat4 FT)
          | fail)
      all_goals
        clear K3 K4 s1 s2 s3 s4
        go_wp2
        go_ret
        exact ⟨⟨v4, rfl, O4.out, N4.out⟩, x4.out, A4.out, Z4.out⟩

end Go.Proofs.Ytbcmfebfcoedkaa
