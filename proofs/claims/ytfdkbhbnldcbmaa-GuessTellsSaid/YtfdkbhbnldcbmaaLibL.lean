/- Walks: slices.Clone, Grow and Concat at one element type (written by wip/gen.py). -/
import Derived.Test.YtfdkbhbnldcbmaaLibR
import Derived.Test.YtfdkbhbnldcbmaaCut
namespace Go.Proofs.Ytfdkbhbnldcbmaa
open Go.RowKit
set_option linter.unusedVariables false

theorem T_set : ElemT Try.prog 22 67 1 24 := elemT Try.underlying22 (z := .slice none 0 0) (by kernel_rfl) rfl (by omega)

section
variable {α : Type} {R : World → List Value → α → Prop}

set_option maxRecDepth 100000 in
set_option maxHeartbeats 400000 in
theorem Clone_set (one : One R) {okk : Nat → Prop} (hk : Keep R okk) (A : Option Addr) (n c : Nat) (l : List α) (w : World) {ok : Nat → Prop} (h : SlR R 1 ok w A n c l) (hb : n * 24 ≤ 140737488355328) (hd : ∀ g, w.heap.size ≤ g → ¬ okk g) :
    Calls Try.prog 151 #[.slice A n c] w fun e w' => ∃ v, e = .returned v ∧ OwnR R 67 1 w.heap.size w' v l ∧ Ext w w' := by
  have hcap := h.cap
  have hmax := h.max
  have hlen := h.len
  rcases A with _ | ad
  · have hl : l = [] := by
      cases hl : l with
      | nil => rfl
      | cons x r => obtain ⟨b, off, vs, e, _⟩ := h.at_ 0 x (by rw [hl]; rfl); cases e
    subst hl
    have en := fun W => Lib.run_eql_slice_nil (P := Try.prog) W 22 67 none n c 0 0 Try.underlying22
    go_enter Try.func151, Try.ntmps151
    go_wp2
    go_ret
    exact ⟨_, rfl, OwnR.nil _ _ _ _ _, Ext.refl _⟩
  · have en := fun W => Lib.run_eql_slice_nil (P := Try.prog) W 22 67 (some ad) n c 0 0 Try.underlying22
    have e1 := (Ext.refl w).alloc (.cells #[] 67)
    have o1 := OwnR.empty R 67 1 w.heap.size w (Nat.le_refl _)
    have hs := h.extX (hk.x) e1
    go_enter Try.func151, Try.ntmps151
    go_wp2_with (at_builtin
                 refine wpList_app T_set rfl (.tmp 5) (.tmp 6) rfl rfl o1 rfl hs (fun _ _ h => h) one hk (fun g hg => hd g (o1.lt g hg).1) ?_ ?_ e1.size ?_
                 · simpa using hb
                 · simp only [List.length_nil, Nat.zero_add]; omega
                 intro v1 w1 o2 g1 hat1)
    go_ret
    exact ⟨v1, rfl, by simpa using o2, e1.app g1 o1⟩

set_option maxRecDepth 100000 in
set_option maxHeartbeats 400000 in
theorem Grow_set (n : Nat) (w : World) (hn : n ≤ 60000) :
    Calls Try.prog 153 #[.slice none 0 0, .int .i64 n] w fun e w' => ∃ v, e = .returned v ∧ OwnR R 67 1 w.heap.size w' v [] ∧ Ext w w' := by
  by_cases hz : n = 0
  · subst hz
    go_enter Try.func153, Try.ntmps153
    go_wp2
    go_ret
    exact ⟨_, rfl, OwnR.nil _ _ _ _ _, Ext.refl _⟩
  · obtain ⟨cap, cur, hrun, h1, h2, h3⟩ := run_grow_nil T_set (tn := 3) Try.underlying3 22 n w (by omega) hn (by omega)
    have hs1 := fun W => run_cut_h T_set (some ⟨w.heap.size, 0, none⟩) n cap 0 0 rfl (by omega) W
    have hs0 := fun W => run_cut_h T_set none 0 0 0 0 rfl (by omega) W
    have o1 := OwnR.made (R := R) (base := w.heap.size) (w := w.drew) (e := 67) (sz := 1) (Nat.le_refl _) h2 h3
    have hr := Lib.hid hrun; clear hrun
    go_enter Try.func153, Try.ntmps153
    go_wp2_with (at_builtin; refine Lib.wpList_append_run _ rfl _ _ _ _ rfl _ _ rfl rfl _ _ hr.out ?_)
    go_ret
    exact ⟨_, rfl, o1, ((Ext.refl w).drew).alloc _⟩

set_option maxHeartbeats 800000 in
theorem Concat_set (one : One R) {okk : Nat → Prop} (hk : Keep R okk) {ok1 ok2 : Nat → Prop} (A : Option Addr) (n c : Nat) (l : List (List α)) (w : World) (h : SlR (rSl R 1 ok1) 1 ok2 w A n c l)
    (hsum : l.flatten.length ≤ 60000) (hd : ∀ g, w.heap.size ≤ g → ¬ okk g) :
    Calls Try.prog 141 #[.slice A n c] w fun e w' => ∃ v, e = .returned v ∧ OwnR R 67 1 w.heap.size w' v l.flatten ∧ Ext w w' := by
  have hcap := h.cap
  have hmax := h.max; unfold maxLen at hmax
  have hlen := Lib.hid h.len
  have HS := Lib.hid hsum; clear hsum
  go_enter Try.func141, Try.ntmps141
  go_wp2
  go_loop [3, 11] (fun u i => ∃ k : Nat, k ≤ n ∧ i = .int .i64 k ∧ u = .int .i64 ((l.take k).flatten.length)) (fun _ i => n - (intOf i).toNat)
  case atStart => exact ⟨0, by omega, rfl, by simp⟩
  case round =>
    obtain ⟨k, hk', rfl, rfl⟩ := hrel
    by_cases hlt : k < n
    · obtain ⟨x, hxx⟩ := h.idx hlt
      obtain ⟨b, off, A', n', c', rfl, _, hc, hsl⟩ := h.sl hxx
      have hl2 : (l.take (k + 1)).flatten.length = (l.take k).flatten.length + n' := by rw [take_snoc hxx]; simp [hsl.len]
      have hle : (l.take (k + 1)).flatten.length ≤ 60000 := Nat.le_trans (take_flatten_le _) HS.out
      have HL := Lib.hid hl2
      have hle' : (l.take k).flatten.length + n' ≤ 60000 := by omega
      clear hl2 hle hxx
      generalize (l.take k).flatten.length = a at *
      have hn0 : ((a : Int) + (n' : Int) < 0) = False := by simp; omega
      go_wp2
      go_round
      case rel => exact ⟨k + 1, by omega, by go_num, by rw [HL.out]; go_num⟩
      case measure => simp [intOf]; omega
    · have e : l.take k = l := take_all hlen.out (by omega)
      rw [e]
      have HS' := HS.out
      have HG := Lib.hid (Grow_set (R := R) l.flatten.length w HS')
      clear HS' e
      generalize hz : l.flatten.length = z at *
      have HZ := Lib.hid hz; clear hz
      go_wp2_with (go_at_call 153; refine HG.out.mono ?_; rintro e w1 ⟨v1, rfl, o1, e1⟩)
      go_loopw [6, 27] (fun u i wr => ∃ k : Nat, k ≤ n ∧ i = .int .i64 k ∧ OwnR R 67 1 w.heap.size wr u (l.take k).flatten ∧ Ext w wr) (fun _ i _ => n - (intOf i).toNat)
      case atStart => exact ⟨0, by omega, rfl, by simpa using o1, e1⟩
      case round =>
        obtain ⟨k, hk', rfl, ow, ex⟩ := hrel
        by_cases hlt : k < n
        · obtain ⟨x, hxx⟩ := h.idx hlt
          obtain ⟨b, off, A', n', c', rfl, _, hc, hsl⟩ := (h.extX (keepX_sl hk.x) ex).sl hxx
          have hl2 : (l.take (k + 1)).flatten = (l.take k).flatten ++ x := by rw [take_snoc hxx]; simp
          have hle : (l.take (k + 1)).flatten.length ≤ 60000 := Nat.le_trans (take_flatten_le _) (by rw [HZ.out]; exact HS.out)
          rw [hl2, List.length_append, hsl.len] at hle
          have HL := Lib.hid hl2; clear hl2 hxx
          go_wp2_with (at_builtin
                       refine wpList_appS T_set (by omega) rfl (.tmp 31) (.tmp 32) rfl rfl ow rfl hsl (fun _ _ h => h) one hk (fun g hg => hd g (ow.lt g hg).1) hle ex.size ?_
                       intro v2 w2 o2 g2 hat2)
          go_roundw
          case rel => exact ⟨k + 1, by omega, by go_num, by rw [HL.out]; exact o2, ex.app g2 ow⟩
          case measure => simp [intOf]; omega
        · go_wp2
          go_ret
          rw [take_all hlen.out (by omega)] at ow
          exact ⟨_, rfl, ow, ex⟩
end

end Go.Proofs.Ytfdkbhbnldcbmaa
