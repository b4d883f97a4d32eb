/- Walk: what comes of each rune of a small set. -/
import Derived.Test.YtfdkbhbnldcbmaaW73
import Derived.Deep.Cut
import Derived.Deep.CutRange
namespace Go.Proofs.Ytfdkbhbnldcbmaa
open Go.RowKit
set_option linter.unusedVariables false
set_option linter.unusedSimpArgs false

theorem T_textP : ElemT Try.prog 57 23 1 24 := elemT Try.underlying57 (z := .slice none 0 0) (by kernel_rfl) rfl (by omega)
theorem textP_one {w : World} {tk : Nat → Prop} {A : Option Addr} {n c : Nat} {t : List Int} (e : TypeId) (hs : SlR rRune 1 tk w A n c t) : SlR (rSl rRune 1 tk) 1 top (w.alloc (.cells #[.slice A n c] e)) (some ⟨w.heap.size, 0, none⟩) 1 1 [t] :=
  SlR.fresh rfl (by unfold maxLen; omega) fun k u hu => by
    match k, hu with
    | 0, hu => cases hu; exact ⟨[.slice A n c], rfl, ⟨A, n, c, rfl, hs.ext (keep_rune _) ((Ext.refl w).alloc _)⟩, fun j v hv => by match j, hv with | 0, hv => simpa using hv⟩

theorem oneP_at (w : World) (x : Int) (t : TypeId) (hx : i32 x) : SlR rRune 1 (fun i => i = w.heap.size) (w.alloc (.cells #[.int .i32 x] t)) (some ⟨w.heap.size, 0, none⟩) 1 1 [x] := by
  refine ⟨rfl, Nat.le_refl _, by unfold maxLen; omega, fun k y hk => ?_⟩
  match k, hk with
  | 0, hk => cases hk; exact ⟨_, 0, [.int .i32 x], rfl, rfl, rfl, ⟨rfl, hx⟩, fun j v hv => by match j, hv with | 0, hv => cases hv; simp⟩

/-- units and images that are gathered, each row clear of the other -/
structure TwoR (base : Nat) (w : World) (vU : Value) (us : List Int) (vO : Value) (ts : List (List Int)) (ok : Nat → Prop) : Prop where
  un : OwnR rRune 21 1 base w vU us
  im : OwnR (rSl rRune 1 ok) 23 1 base w vO ts
  lt : ∀ i, ok i → i < w.heap.size
  noU : ∀ g, vU.ownBlock = some g → ¬ ok g
  noO : ∀ g, vO.ownBlock = some g → ¬ ok g
  ne : ∀ g, vU.ownBlock = some g → vO.ownBlock ≠ some g
section
variable {base : Nat} {w w' : World} {vU : Value} {us : List Int} {vO : Value} {ts : List (List Int)} {ok : Nat → Prop}
theorem TwoR.ext (h : TwoR base w vU us vO ts ok) (e : Ext w w') : TwoR base w' vU us vO ts ok :=
  ⟨h.un.ext (keep_rune bot) e, h.im.ext (keep_sl (keep_rune ok)) e, fun i hi => Nat.lt_of_lt_of_le (h.lt i hi) e.size, h.noU, h.noO, h.ne⟩
/-- one more slice may be told -/
theorem TwoR.more (h : TwoR base w vU us vO ts ok) {tk : Nat → Prop} (ht : ∀ i, tk i → i < w.heap.size ∧ (∀ g, vU.ownBlock = some g → i ≠ g) ∧ ∀ g, vO.ownBlock = some g → i ≠ g) :
    TwoR base w vU us vO ts (fun i => ok i ∨ tk i) :=
  ⟨h.un, h.im.weaken (fun vs x ⟨A, n, c, e, hs⟩ => ⟨A, n, c, e, hs.mono (fun _ _ h => h) (fun i hi => .inl hi)⟩), fun i hi => hi.elim (h.lt i) (fun h => (ht i h).1),
    fun g hg hi => hi.elim (h.noU g hg) (fun h => (ht g h).2.1 g hg rfl), fun g hg hi => hi.elim (h.noO g hg) (fun h => (ht g h).2.2 g hg rfl), h.ne⟩
/-- a unit is appended -/
theorem TwoR.unit (h : TwoR base w vU us vO ts ok) {vU' : Value} {us' : List Int} (o : OwnR rRune 21 1 base w' vU' us') (hg : w.grownBy w' vU.ownBlock) (hat : vU'.ownBlock = vU.ownBlock ∨ vU'.ownBlock = some w.heap.size) :
    TwoR base w' vU' us' vO ts ok := by
  refine ⟨o, h.im.keep (keep_sl (keep_rune ok)) (grown_agree hg h.noU) (fun g hgo => hg.block g (h.im.lt g hgo).2 (fun e => h.ne g e.symm hgo)), fun i hi => Nat.lt_of_lt_of_le (h.lt i hi) hg.size, ?_, h.noO, ?_⟩
  · intro g hgu
    rcases hat with e | e <;> rw [e] at hgu
    · exact h.noU g hgu
    · intro hk; have := h.lt g hk; cases hgu; omega
  · intro g hgu
    rcases hat with e | e <;> rw [e] at hgu
    · exact h.ne g hgu
    · intro hgo; have := (h.im.lt g hgo).2; cases hgu; omega
/-- an image is appended -/
theorem TwoR.image (h : TwoR base w vU us vO ts ok) {vO' : Value} {ts' : List (List Int)} (o : OwnR (rSl rRune 1 ok) 23 1 base w' vO' ts') (hg : w.grownBy w' vO.ownBlock) (hat : vO'.ownBlock = vO.ownBlock ∨ vO'.ownBlock = some w.heap.size) :
    TwoR base w' vU us vO' ts' ok := by
  refine ⟨h.un.keep (keep_rune bot) (fun _ h _ => h.elim) (fun g hgu => hg.block g (h.un.lt g hgu).2 (fun e => h.ne g hgu e.symm)), o, fun i hi => Nat.lt_of_lt_of_le (h.lt i hi) hg.size, h.noU, ?_, ?_⟩
  · intro g hgo
    rcases hat with e | e <;> rw [e] at hgo
    · exact h.noO g hgo
    · intro hk; have := h.lt g hk; cases hgo; omega
  · intro g hgu hgo
    rcases hat with e | e <;> rw [e] at hgo
    · exact h.ne g hgu hgo
    · have := (h.un.lt g hgu).2; cases hgo; omega
end

/-- what images hands back -/
def ImgR (l : List Rule) (us : List Int) (w' : World) (e : Ending) : Prop :=
  if !(blocked l us) && imgsOk l us then ∃ A c B d, e = .returned (.tuple #[.slice A us.length c, .slice B us.length d, .bool true]) ∧ Runes w' A us.length c us ∧ Texts w' B us.length d (imgs l us)
  else e = .returned (.tuple #[.slice none 0 0, .slice none 0 0, .bool false])

theorem ImgR.blk {l : List Rule} {us : List Int} {w' : World} (h : blocked l us = true) : ImgR l us w' (.returned (.tuple #[.slice none 0 0, .slice none 0 0, .bool false])) := by
  unfold ImgR; rw [h]; rfl
theorem ImgR.no {l : List Rule} {us : List Int} {w' : World} (h : imgsOk l us = false) : ImgR l us w' (.returned (.tuple #[.slice none 0 0, .slice none 0 0, .bool false])) := by
  unfold ImgR; rw [h, Bool.and_false]; rfl
theorem ImgR.yes {l : List Rule} {us : List Int} {w' : World} {N : Nat} {A B : Option Addr} {c d : Nat} (hb : blocked l us = false) (hi : imgsOk l us = true) (hN : us.length = N) (sU : Runes w' A N c us) (sO : Texts w' B N d (imgs l us)) :
    ImgR l us w' (.returned (.tuple #[.slice A N c, .slice B N d, .bool true])) := by
  subst hN
  unfold ImgR; rw [hb, hi]; exact ⟨A, c, B, d, rfl, sU, sO⟩

section
variable (A : Option Addr) (n c : Nat) (l : List Rule) (B : Option Addr) (m d : Nat) (ds : List Sp) (w : World) (h : Rules w A n c l) (hok : ∀ r ∈ l, OkRule r) (hd : Spans w B m d ds) (gd : wrongSet ds = 0) (hU : (unitsL ds).length ≤ 40)
set_option maxRecDepth 100000 in
set_option maxHeartbeats 4000000 in
include h hok hd gd hU in
theorem images_any : Calls Try.prog 108 #[.slice A n c, .slice B m d, .int .i64 ((unitsL ds).length : Nat)] w fun e w' => ImgR l (unitsL ds) w' e ∧ Ext w w' := by
  have hmA := h.max; unfold maxLen at hmA
  have hcA := h.cap
  have hlen := Lib.hid h.len
  have OK := Lib.hid hok
  have GD := Lib.hid gd
  have hG := good_of gd
  have HNT : Hid (∀ (k : Nat) (u : Int), (unitsL ds)[k]? = some u → nthL ds (k : Int) = (u, 0) ∧ 0 ≤ u ∧ u ≤ 1114111) := Lib.hid (fun k u hu => by
    refine ⟨?_, units_rng (fun x hx => hG.rng x hx) (List.mem_of_getElem? hu)⟩
    unfold nthL
    rw [if_neg (by rw [GD.out]; simp), if_neg (by omega)]
    exact units_nth (fun x hx => hG.rng x hx) hu)
  have HNth := Lib.hid (fun (k : Nat) (hk : k ≤ 40) W (e : Ext w W) => Nth_any B m d ds (k : Int) W (hd.ext e) (by unfold i64; omega))
  have HB : Hid (blocked l (unitsL ds) = l.any fun r => decide (1 < r.source.length) && canR r (unitsL ds)) := Lib.hid rfl
  have HI : Hid (imgsOk l (unitsL ds) = (unitsL ds).all fun u => !(imgOf l u).isEmpty) := Lib.hid rfl
  have HIDL : Hid (∀ (b off : Nat) s f A1 n1 c1 A2 n2 c2 A3 n3 c3 A4 n4 c4 q r W, Ext w W → RuleV W s f A1 n1 c1 A2 n2 c2 A3 n3 c3 A4 n4 c4 q r → RuleAt W b off s f A1 n1 c1 A2 n2 c2 A3 n3 c3 A4 n4 c4 q → OkRule r →
    Calls Try.prog 145 #[.pointer (some ⟨b, off, none⟩), .slice B m d] W fun e w' => e = .returned (.bool (!(canR r (unitsL ds)))) ∧ Ext W w') :=
    Lib.hid (fun b off s f A1 n1 c1 A2 n2 c2 A3 n3 c3 A4 n4 c4 q r W e hv hr ok => idle_any b off s f A1 n1 c1 A2 n2 c2 A3 n3 c3 A4 n4 c4 q r B m d ds W hv hr (hd.ext e) GD.out ok)
  generalize unitsL ds = us at *
  obtain ⟨N, hN⟩ : ∃ N, us.length = N := ⟨_, rfl⟩
  have HN := Lib.hid hN
  rw [hN] at hU ⊢
  clear hN hG gd hok
  go_enter Try.func108, Try.ntmps108
  go_wp2
  go_loopw [19] (fun i wr => ∃ k : Nat, k ≤ n ∧ i = .int .i64 k ∧ Hid (blocked l us = (l.drop k).any fun r => decide (1 < r.source.length) && canR r us) ∧ Ext w wr) (fun i _ => n - (intOf i).toNat)
  case atStart => exact ⟨0, by omega, rfl, HB, Ext.refl _⟩
  case round =>
    obtain ⟨k, hk, rfl, HK, hx⟩ := hrel
    by_cases hlt : k < n
    · obtain ⟨r, hrr⟩ := h.idx hlt
      obtain ⟨b, off, s, f, A1, n1, c1, A2, n2, c2, A3, n3, c3, A4, n4, c4, q, rfl, ⟨_, hne⟩, hv, k0, k1, k2, k3, k4, k5, k6⟩ := (h.ext hx).rule hrr
      have HD : Hid (blocked l us = ((decide (1 < n2) && canR r us) || (l.drop (k + 1)).any fun r => decide (1 < r.source.length) && canR r us)) := Lib.hid (by rw [HK.out, drop_cons hrr, List.any_cons, hv.source.len])
      have ok := OK.out r (List.mem_of_getElem? hrr)
      have HC := Lib.hid (HIDL.out b (off + k * 7) s f A1 n1 c1 A2 n2 c2 A3 n3 c3 A4 n4 c4 q r wr hx hv ⟨k0, k1, k2, k3, k4, k5, k6⟩ ok)
      clear hrr hv ok
      by_cases h2 : 1 < n2
      · cases hc : canR r us
        · have HK2 : Hid (blocked l us = (l.drop (k + 1)).any fun r => decide (1 < r.source.length) && canR r us) := Lib.hid (by rw [HD.out, hc]; simp)
          have HCC := Lib.hid hc; clear hc
          go_wp2_with (go_at_call 145; refine HC.out.mono ?_; rintro e w1 ⟨rfl, x1⟩; rw [HCC.out])
          go_roundw
          case rel => exact ⟨k + 1, by omega, by go_num, HK2, hx.trans x1⟩
          case measure => simp [intOf]; omega
        · have HV : Hid (blocked l us = true) := Lib.hid (by rw [HD.out, hc, decide_eq_true h2]; rfl)
          have HCC := Lib.hid hc; clear hc
          go_wp2_with (go_at_call 145; refine HC.out.mono ?_; rintro e w1 ⟨rfl, x1⟩; rw [HCC.out])
          refine bodyPost_ret (v := .tuple #[.slice none 0 0, .slice none 0 0, .bool false]) (by simp [results, Try.results108, go_sem]) rfl ?_
          exact ⟨ImgR.blk HV.out, hx.trans x1⟩
      · have HK2 : Hid (blocked l us = (l.drop (k + 1)).any fun r => decide (1 < r.source.length) && canR r us) := Lib.hid (by rw [HD.out, decide_eq_false h2]; simp)
        go_wp2
        go_roundw
        case rel => exact ⟨k + 1, by omega, by go_num, HK2, hx⟩
        case measure => simp [intOf]; omega
    · have HBV : Hid (blocked l us = false) := Lib.hid (by rw [HK.out, drop_end hlen.out hlt]; rfl)
      generalize wr = w1 at *
      go_wp2
      go_loopw [9, 10, 39] (fun vU vO i wr => ∃ (k : Nat) (ok : Nat → Prop), k ≤ N ∧ i = .int .i64 k ∧ Hid (imgsOk l us = (us.drop k).all fun u => !(imgOf l u).isEmpty) ∧ TwoR w.heap.size wr vU (us.take k) vO (imgs l (us.take k)) ok ∧ Ext w wr) (fun _ _ i _ => N - (intOf i).toNat)
      case atStart => exact ⟨0, bot, by omega, rfl, HI, ⟨OwnR.nil _ _ _ _ _, OwnR.nil _ _ _ _ _, fun i h => h.elim, fun _ _ h => h, fun _ _ h => h, fun g hg => by simp [Value.ownBlock] at hg⟩, hx⟩
      case round =>
        obtain ⟨k, ok, hk, rfl, HK2, HT, hy⟩ := hrel
        generalize wr = w2 at *
        obtain ⟨AU, cU, rfl, _⟩ := HT.un.form
        obtain ⟨AO, cO, rfl, _⟩ := HT.im.form
        by_cases hkN : k < N
        · obtain ⟨u, hu⟩ : ∃ u, us[k]? = some u := ⟨us[k]'(by rw [HN.out]; exact hkN), List.getElem?_eq_getElem _⟩
          obtain ⟨hnt, hu0, hu1⟩ := HNT.out k u hu
          have hui : i32 u := by unfold i32; omega
          have HNk := Lib.hid (HNth.out k (by omega) w2 hy)
          rw [hnt] at HNk
          have HTK : Hid (us.take (k + 1) = us.take k ++ [u]) := Lib.hid (take_snoc hu)
          have HDK : Hid (imgsOk l us = (!(imgOf l u).isEmpty && (us.drop (k + 1)).all fun u => !(imgOf l u).isEmpty)) := Lib.hid (by rw [HK2.out, drop_cons hu, List.all_cons])
          have HIM : Hid (imgs l (us.take (k + 1)) = imgs l (us.take k) ++ [imgOf l u]) := Lib.hid (by rw [take_snoc hu]; simp [imgs])
          have hlU : (us.take k).length = k := by simp [HN.out]; omega
          have hlO : (imgs l (us.take k)).length = k := by simp [imgs, HN.out]; omega
          have HLU := Lib.hid hlU; have HLO := Lib.hid hlO
          clear hnt hu hlU hlO
          generalize imgs l (us.take k) = ik at *
          generalize us.take k = uk at *
          by_cases hf : first l [u] 0 < 0
          · have HIMG := imgOf_no hf
            rw [HIMG] at HIM
            have HK3 : Hid (imgsOk l us = (us.drop (k + 1)).all fun u => !(imgOf l u).isEmpty) := Lib.hid (by rw [HDK.out, HIMG]; rfl)
            have hf' : decide (0 ≤ first l [u] 0) = false := by simp; omega
            clear hf HIMG
            go_upto_region 19 with (first
              | (go_at_call 60; refine HNk.out.mono ?_; rintro e w3 ⟨rfl, x3⟩; have oa := oneP_at w3 u 21 hui; have xa := (Ext.refl w3).alloc (.cells #[.int .i32 u] 21))
              | (go_at_call 90; refine ((First_any _ n c l (some ⟨w3.heap.size, 0, none⟩) 1 1 [u] 0 _ (h.ext ((hy.trans x3).trans xa)) (oa.mono (fun _ _ h => h) (fun _ _ => trivial)) (by omega) (by omega) OK.out)).mono ?_; rintro e w5 ⟨rfl, x5⟩; rw [show ((0 : Nat) : Int) = 0 from rfl]))
            have E25 := (x3.trans xa).trans x5
            have hs3 := x3.size; have hs5 := x5.size
            simp only [World.size_alloc] at hs5
            have tt : SlR rRune 1 (fun i => i < w.heap.size ∨ (w2.heap.size ≤ i ∧ i < w5.heap.size)) w5 (some ⟨w3.heap.size, 0, none⟩) 1 1 [u] := (oa.ext (keep_rune _) x5).mono (fun _ _ h => h) (fun i hi => .inr ⟨by omega, by omega⟩)
            have T5 := ((HT.ext E25).more (tk := fun i => i < w.heap.size ∨ (w2.heap.size ≤ i ∧ i < w5.heap.size)) (fun i hi => ⟨by have h1 := hy.size; have h2 := E25.size; omega, fun g hg => by have := HT.un.lt g hg; omega, fun g hg => by have := HT.im.lt g hg; omega⟩)).ext ((Ext.refl w5).alloc (.cells #[.int .i32 u] 21))
            have on2 := oneP_new w5 u 21 hui
            have ta := tt.ext (keep_rune _) ((Ext.refl w5).alloc (.cells #[.int .i32 u] 21))
            have hbs : w.heap.size ≤ (w5.alloc (.cells #[.int .i32 u] 21)).heap.size := (hy.trans E25 |>.alloc _).size
            have hbl : uk.length + 1 ≤ 60000 := by rw [HLU.out]; omega
            have hbo : ik.length + 1 ≤ 60000 := by rw [HLO.out]; omega
            go_wp2_with (first
            | (at_builtin
               refine wpList_appS T_rune (by omega) rfl (.tmp 64) (.tmp 66) rfl rfl T5.un rfl on2 (fun _ _ h => h) one_rune (keep_rune bot) (bot_no _) hbl hbs ?_
               intro v7 w7 o7 g7 hat7
               have T7 := T5.unit o7 g7 hat7
               have t7 := ta.keep (keep_rune _) (grown_agree g7 (fun g hg hk => T5.noU g hg (.inr hk)))
               have xb := (Ext.refl w7).alloc (.cells #[.slice (some ⟨w3.heap.size, 0, none⟩) 1 1] 23)
               have T7b := T7.ext xb
               have hbs2 : w.heap.size ≤ (w7.alloc (.cells #[.slice (some ⟨w3.heap.size, 0, none⟩) 1 1] 23)).heap.size := Nat.le_trans hbs (Nat.le_trans g7.size xb.size)
               have y7 := ((hy.trans E25).alloc (.cells #[.int .i32 u] 21)).app g7 T5.un)
            | (at_builtin
               refine wpList_appS T_textP (by omega) rfl (.tmp 68) (.tmp 70) rfl rfl T7b.im rfl (textP_one 23 t7) (fun vs x ⟨A, n, c, e, hs⟩ => ⟨A, n, c, e, hs.mono (fun _ _ h => h) (fun i hi => .inr hi)⟩) (one_sl _ _ _) (keep_sl (keep_rune _)) T7b.noO hbo hbs2 ?_
               intro v9 w9 o9 g9 hat9
               have T9 := T7b.image o9 g9 hat9
               have y9 := (y7.trans xb).app g9 T7b.im))
            go_roundw
            case rel => exact ⟨k + 1, _, by omega, by go_num, HK3, by rw [HIM.out, HTK.out]; exact T9, y9⟩
            case measure => simp [intOf]; omega
          · obtain ⟨i, r, hir, hhere, hfi⟩ := first_mem (by omega : 0 ≤ first l [u] 0)
            have HIMG := imgOf_some hfi hir
            have hil : i < n := by rw [← h.len]; exact (List.getElem?_eq_some_iff.1 hir).1
            have HFI := Lib.hid hfi
            obtain ⟨bo, off, s', f', A1, n1', c1, A2, n2, c2, A3, n3, c3, A4, n4, c4, q, hAeq, ⟨hbo, hbn⟩, hv, r0, r1, r2, r3, r4, r5, r6⟩ := h.rule hir
            subst hAeq
            have R5 := Lib.hid r5
            have hT4 := SlR.lt (by omega) hv.target
            have hl4 := Lib.hid hv.target.len
            have h4 := hv.target.max; unfold maxLen at h4
            have h4c := hv.target.cap
            rw [HIMG] at HIM HDK
            have hf' : decide (0 ≤ (i : Int)) = true := by simp
            clear hf hir hhere hfi hv r0 r1 r2 r3 r4 r5 r6 HIMG
            generalize r.target = tg at *
            by_cases h40 : n4 = 0
            · subst h40
              have htg : tg = [] := List.eq_nil_of_length_eq_zero hl4.out
              have HV : Hid (imgsOk l us = false) := Lib.hid (by rw [HDK.out, htg]; rfl)
              clear htg
              go_wp2_with (first
                | (go_at_call 60; refine HNk.out.mono ?_; rintro e w3 ⟨rfl, x3⟩; have oa := oneP_at w3 u 21 hui; have xa := (Ext.refl w3).alloc (.cells #[.int .i32 u] 21))
                | (go_at_call 90; refine ((First_any _ n c l (some ⟨w3.heap.size, 0, none⟩) 1 1 [u] 0 _ (h.ext ((hy.trans x3).trans xa)) (oa.mono (fun _ _ h => h) (fun _ _ => trivial)) (by omega) (by omega) OK.out)).mono ?_; rintro e w5 ⟨rfl, x5⟩; rw [show ((0 : Nat) : Int) = 0 from rfl, HFI.out]; have t5 := ((hy.trans (x3.trans xa)).trans x5).cell R5.out))
              refine bodyPost_ret (v := .tuple #[.slice none 0 0, .slice none 0 0, .bool false]) (by simp [results, Try.results108, go_sem]) rfl ?_
              exact ⟨ImgR.no HV.out, (hy.trans (x3.trans xa)).trans x5⟩
            · have hn40 : ((n4 : Int) == 0) = false := by simp; omega
              have HK3 : Hid (imgsOk l us = (us.drop (k + 1)).all fun u => !(imgOf l u).isEmpty) := Lib.hid (by
                rw [HDK.out]
                cases htg : tg with
                | nil => have := hl4.out; rw [htg] at this; simp at this; omega
                | cons x y => rfl)
              clear h40
              go_upto_region 19 with (first
                | (go_at_call 60; refine HNk.out.mono ?_; rintro e w3 ⟨rfl, x3⟩; have oa := oneP_at w3 u 21 hui; have xa := (Ext.refl w3).alloc (.cells #[.int .i32 u] 21))
                | (go_at_call 90; refine ((First_any _ n c l (some ⟨w3.heap.size, 0, none⟩) 1 1 [u] 0 _ (h.ext ((hy.trans x3).trans xa)) (oa.mono (fun _ _ h => h) (fun _ _ => trivial)) (by omega) (by omega) OK.out)).mono ?_; rintro e w5 ⟨rfl, x5⟩; rw [show ((0 : Nat) : Int) = 0 from rfl, HFI.out]; have t5 := ((hy.trans (x3.trans xa)).trans x5).cell R5.out))
              have E25 := (x3.trans xa).trans x5
              have tt : SlR rRune 1 (fun i => i < w.heap.size ∨ (w2.heap.size ≤ i ∧ i < w5.heap.size)) w5 A4 n4 c4 tg := (hT4.ext (keep_rune _) (hy.trans E25)).mono (fun _ _ h => h) (fun i hi => .inl hi.2)
              have T5 := ((HT.ext E25).more (tk := fun i => i < w.heap.size ∨ (w2.heap.size ≤ i ∧ i < w5.heap.size)) (fun i hi => ⟨by have h1 := hy.size; have h2 := E25.size; omega, fun g hg => by have := HT.un.lt g hg; omega, fun g hg => by have := HT.im.lt g hg; omega⟩)).ext ((Ext.refl w5).alloc (.cells #[.int .i32 u] 21))
              have on2 := oneP_new w5 u 21 hui
              have ta := tt.ext (keep_rune _) ((Ext.refl w5).alloc (.cells #[.int .i32 u] 21))
              have hbs : w.heap.size ≤ (w5.alloc (.cells #[.int .i32 u] 21)).heap.size := (hy.trans E25 |>.alloc _).size
              have hbl : uk.length + 1 ≤ 60000 := by rw [HLU.out]; omega
              have hbo : ik.length + 1 ≤ 60000 := by rw [HLO.out]; omega
              go_wp2_with (first
              | (at_builtin
                 refine wpList_appS T_rune (by omega) rfl (.tmp 64) (.tmp 66) rfl rfl T5.un rfl on2 (fun _ _ h => h) one_rune (keep_rune bot) (bot_no _) hbl hbs ?_
                 intro v7 w7 o7 g7 hat7
                 have T7 := T5.unit o7 g7 hat7
                 have t7 := ta.keep (keep_rune _) (grown_agree g7 (fun g hg hk => T5.noU g hg (.inr hk)))
                 have xb := (Ext.refl w7).alloc (.cells #[.slice A4 n4 c4] 23)
                 have T7b := T7.ext xb
                 have hbs2 : w.heap.size ≤ (w7.alloc (.cells #[.slice A4 n4 c4] 23)).heap.size := Nat.le_trans hbs (Nat.le_trans g7.size xb.size)
                 have y7 := ((hy.trans E25).alloc (.cells #[.int .i32 u] 21)).app g7 T5.un)
              | (at_builtin
                 refine wpList_appS T_textP (by omega) rfl (.tmp 68) (.tmp 70) rfl rfl T7b.im rfl (textP_one 23 t7) (fun vs x ⟨A, n, c, e, hs⟩ => ⟨A, n, c, e, hs.mono (fun _ _ h => h) (fun i hi => .inr hi)⟩) (one_sl _ _ _) (keep_sl (keep_rune _)) T7b.noO hbo hbs2 ?_
                 intro v9 w9 o9 g9 hat9
                 have T9 := T7b.image o9 g9 hat9
                 have y9 := (y7.trans xb).app g9 T7b.im))
              go_roundw
              case rel => exact ⟨k + 1, _, by omega, by go_num, HK3, by rw [HIM.out, HTK.out]; exact T9, y9⟩
              case measure => simp [intOf]; omega
        · have hkk : k = N := by omega
          subst hkk
          have HV : Hid (imgsOk l us = true) := Lib.hid (by rw [HK2.out, drop_end HN.out (by omega)]; rfl)
          have HTKN : Hid (us.take k = us) := Lib.hid (take_all HN.out (by omega))
          have HLI : Hid ((imgs l us).length = k) := Lib.hid (by simp [imgs, HN.out])
          have h1 := HTKN.out; have h2 := HN.out; have h3 := HLI.out
          simp only [h1, h2, h3] at HT ⊢
          obtain ⟨A7, c7, e7, s7⟩ := HT.un.top
          obtain ⟨A8, c8, e8, s8⟩ := HT.im.top
          rw [h2] at e7 s7
          rw [h3] at e8 s8
          simp only [Value.slice.injEq, true_and] at e7 e8
          obtain ⟨rfl, rfl⟩ := e7
          obtain ⟨rfl, rfl⟩ := e8
          have S8 := Lib.hid (SlR.mono s8 (fun vs x ⟨A', n', c', e, hs⟩ => (⟨A', n', c', e, hs.mono (fun _ _ h => h) (fun _ _ => trivial)⟩ : rSl rRune 1 top w2 vs x)) (fun _ h => h))
          have S7 := Lib.hid s7
          clear h1 h2 h3 s7 s8 HT
          go_wp2
          refine bodyPost_ret (v := .tuple #[.slice AU k cU, .slice AO k cO, .bool true]) (by simp [results, Try.results108, go_sem]) rfl ?_
          exact ⟨ImgR.yes HBV.out HV.out HN.out S7.out S8.out, hy⟩
end

end Go.Proofs.Ytfdkbhbnldcbmaa
