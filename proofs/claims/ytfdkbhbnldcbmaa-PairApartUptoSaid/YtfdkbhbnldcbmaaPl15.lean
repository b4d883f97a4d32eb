/- Plain: what is sure to be undone is. No program in sight. -/
import Derived.Test.YtfdkbhbnldcbmaaPl14
namespace Go.Proofs.Ytfdkbhbnldcbmaa
set_option linter.unusedVariables false
set_option linter.unusedSimpArgs false

/-! ### rules that look at nothing around see what lies ahead alone -/
theorem bare_parts {r : Rule} (h : bareR r = true) : r.start = false ∧ r.fin = false ∧ r.before = [] ∧ r.after = [] := by
  unfold bareR at h
  simp only [Bool.not_eq_true', Bool.or_eq_false_iff, decide_eq_false_iff_not] at h
  exact ⟨h.1.1, h.1.2, List.eq_nil_of_length_eq_zero (by omega), List.eq_nil_of_length_eq_zero (by omega)⟩
theorem bare_here {r : Rule} (h : bareR r = true) {t : List Int} {a : Nat} (ha : a ≤ t.length) : here r t a = zipHas r.source (t.drop a) := by
  obtain ⟨h1, h2, h3, h4⟩ := bare_parts h
  unfold here
  rw [h1, h2, h3, h4, allAt_nat _ ha]
  cases hz : zipHas r.source (t.drop a)
  · simp
  · have hl := zipHas_len _ _ hz
    simp at hl
    unfold allAt
    simp [zipHas]; omega
def zf (l : List Rule) (u : List Int) : Int := idxFrom (fun r => zipHas r.source u) 0 l
theorem plainR_bare {l : List Rule} (h : plainR l = true) : ∀ r ∈ l, bareR r = true := by
  unfold plainR at h
  simp only [Bool.and_eq_true] at h
  exact List.all_eq_true.1 h.2
theorem plainR_sure {l : List Rule} (h : plainR l = true) : sureR l = true := by
  unfold plainR at h
  simp only [Bool.and_eq_true] at h
  exact h.1
theorem plain_first {l : List Rule} (h : plainR l = true) {t : List Int} {a : Nat} (ha : a ≤ t.length) : first l t a = zf l (t.drop a) :=
  idxFrom_congr _ _ fun r hr => bare_here (plainR_bare h r hr) ha
theorem zf_take {l : List Rule} {u v : List Int} (h : ∀ r ∈ l, r.source.length ≤ u.length) : zf l (u ++ v) = zf l u :=
  idxFrom_congr _ _ fun r hr => by
    rw [← zipHas_take r.source (u ++ v) u.length (h r hr)]
    simp
theorem zf_one {f : List Rule} (ok : ∀ r ∈ f, OkRule r) {us : List Int} (hb : blocked f us = false) {x : Int} {rest : List Int} (hx : ∀ y ∈ x :: rest, y ∈ us) : zf f (x :: rest) = zf f [x] :=
  idxFrom_congr _ _ fun r hr => by
    have s0 := (ok r hr).s0
    match hs : r.source with
    | [] => rw [hs] at s0; simp at s0
    | [s] => simp [zipHas]
    | s :: s2 :: ss =>
      have h1 : zipHas (s :: s2 :: ss) [x] = false := by simp [zipHas]
      rw [h1]
      cases hz : zipHas (s :: s2 :: ss) (x :: rest)
      · rfl
      · exfalso
        have hc : canR r us = true := by
          unfold canR
          rw [List.all_eq_true]
          intro t ht
          rw [hs] at ht
          obtain ⟨i, hi⟩ := List.getElem?_of_mem ht
          obtain ⟨y, hy, hty⟩ := (zipHas_iff _ _).1 hz i t hi
          exact List.any_eq_true.2 ⟨y, hx y (List.mem_of_getElem? hy), hty⟩
        unfold blocked at hb
        rw [List.any_eq_false] at hb
        have := hb r hr
        rw [hc, hs] at this
        simp at this

theorem sure_cur {l : List Rule} (h : sureR l = true) {r : Rule} (hr : r ∈ l) : r.cursor.toNat = r.target.length := by
  have := sureR_mem h hr; omega

/-- rules make of each unit its image -/
theorem forth_play {f : List Rule} (ok : ∀ r ∈ f, OkRule r) (hp : plainR f = true) {us : List Int} (hb : blocked f us = false) :
    ∀ (rest done : List Int) (n s p : Nat), (∀ x ∈ rest, x ∈ us) → (done ++ rest).length ≤ 4000 → rest.length ≤ n →
      (play f n ⟨done ++ rest, done.length, s, p⟩).err = 4 ∨
      ((play f n ⟨done ++ rest, done.length, s, p⟩).err = 0 ∧ (play f n ⟨done ++ rest, done.length, s, p⟩).text = done ++ rest.flatMap (imgOf f) ∧ (done ++ rest.flatMap (imgOf f)).length ≤ 4000)
  | [], done, n, s, p, _, hl, _ => by
    right
    rw [play_end (by simp)]
    exact ⟨rfl, by simp, by simpa using hl⟩
  | x :: rest, done, 0, s, p, _, _, hn => by simp at hn
  | x :: rest, done, n + 1, s, p, hu, hl, hn => by
    have hlt : (⟨done ++ x :: rest, done.length, s, p⟩ : Play).at_ < (⟨done ++ x :: rest, done.length, s, p⟩ : Play).text.length := by simp
    have hf : first f (done ++ x :: rest) done.length = first f [x] 0 := by
      have h0 := plain_first hp (t := [x]) (a := 0) (by simp)
      rw [plain_first hp (by simp), List.drop_left, zf_one ok hb hu]
      simpa using h0.symm
    by_cases hk : first f [x] 0 < 0
    · have hi := imgOf_no hk
      rw [play_next hlt (playStep_no (by rw [hf]; exact hk))]
      have ih := forth_play ok hp hb rest (done ++ [x]) n (s + 1) p (fun y hy => hu y (by simp [hy])) (by simpa using hl) (by simpa using hn)
      simpa [hi] using ih
    · obtain ⟨i, r, hir, hhere, hfi⟩ := first_mem (t := [x]) (a := 0) (l := f) (by omega)
      have hi := imgOf_some hfi hir
      have hm := List.mem_of_getElem? hir
      have hroom := here_room (t := [x]) (a := 0) hhere
      have s1 : r.source.length = 1 := by have := (ok r hm).s0; simp at hroom; omega
      by_cases hbig : 4000 < ((done ++ x :: rest).length : Int) - r.source.length + r.target.length
      · left
        rw [play_none hlt (playStep_much (hf.trans hfi) hir hbig)]
      · rw [play_next hlt (playStep_put (hf.trans hfi) hir hbig)]
        have hpt : putAt r (done ++ x :: rest) done.length = (done ++ r.target) ++ rest := by
          unfold putAt
          rw [s1, List.take_left, show done.length + 1 = done.length + 1 from rfl, ← List.drop_drop, List.drop_left]; rfl
        have hl2 : ((done ++ r.target) ++ rest).length ≤ 4000 := by
          simp at hbig ⊢; omega
        have ih := forth_play ok hp hb rest (done ++ r.target) n (s + 1) (p + 1) (fun y hy => hu y (by simp [hy])) hl2 (by simpa using hn)
        rw [hpt, sure_cur (plainR_sure hp) hm, show done.length + r.target.length = (done ++ r.target).length by simp]
        simpa [hi] using ih

/-- the others make of each image its unit -/
theorem back_play {f b : List Rule} (ok : ∀ r ∈ b, OkRule r) (hp : plainR b = true) {us : List Int} (hi : imgsOk f us = true)
    (U : ∀ x ∈ us, undoneB b (imgOf f x) (imgOf f x).length x = true ∧ ∀ y ∈ us, (reachB b 0 0).2 ≤ (imgOf f x).length + (imgOf f y).length ∧ undoneB b (imgOf f x ++ imgOf f y) (imgOf f x).length x = true) :
    ∀ (rest done : List Int) (n s p : Nat), (∀ x ∈ rest, x ∈ us) → (done ++ rest.flatMap (imgOf f)).length ≤ 4000 → rest.length ≤ n →
      (play b n ⟨done ++ rest.flatMap (imgOf f), done.length, s, p⟩).err = 0 ∧ (play b n ⟨done ++ rest.flatMap (imgOf f), done.length, s, p⟩).text = done ++ rest
  | [], done, n, s, p, _, hl, _ => by
    rw [play_end (by simp)]
    exact ⟨rfl, by simp⟩
  | x :: rest, done, 0, s, p, _, _, hn => by simp at hn
  | x :: rest, done, n + 1, s, p, hu, hl, hn => by
    have hxu := hu x (by simp)
    have hne : imgOf f x ≠ [] := by
      have := List.all_eq_true.1 hi x hxu
      intro e; rw [e] at this; simp at this
    obtain ⟨g, gs, hg⟩ : ∃ g gs, imgOf f x = g :: gs := by
      cases h : imgOf f x with
      | nil => exact absurd h hne
      | cons g gs => exact ⟨g, gs, rfl⟩
    have hfm : (x :: rest).flatMap (imgOf f) = imgOf f x ++ rest.flatMap (imgOf f) := by simp
    rw [hfm] at hl ⊢
    have hlt : (⟨done ++ (imgOf f x ++ rest.flatMap (imgOf f)), done.length, s, p⟩ : Play).at_ < (⟨done ++ (imgOf f x ++ rest.flatMap (imgOf f)), done.length, s, p⟩ : Play).text.length := by simp [hg]
    -- what a rule sees there
    obtain ⟨W, hW1, hW2, hW3⟩ : ∃ W, first b (done ++ (imgOf f x ++ rest.flatMap (imgOf f))) done.length = first b W 0 ∧ undoneB b W (imgOf f x).length x = true ∧ ∃ V, W = imgOf f x ++ V := by
      have hfirst : first b (done ++ (imgOf f x ++ rest.flatMap (imgOf f))) done.length = zf b (imgOf f x ++ rest.flatMap (imgOf f)) := by
        rw [plain_first hp (by simp), List.drop_left]
      have hz : ∀ V, zf b V = first b V 0 := fun V => by
        have h0 := plain_first hp (t := V) (a := 0) (by simp)
        simpa using h0.symm
      cases rest with
      | nil => exact ⟨imgOf f x, by rw [hfirst]; simp [hz], (U x hxu).1, [], by simp⟩
      | cons y rest' =>
        have hyu := hu y (by simp)
        obtain ⟨u1, u2⟩ := (U x hxu).2 y hyu
        refine ⟨imgOf f x ++ imgOf f y, ?_, u2, _, rfl⟩
        rw [hfirst, show imgOf f x ++ (y :: rest').flatMap (imgOf f) = (imgOf f x ++ imgOf f y) ++ rest'.flatMap (imgOf f) by simp, zf_take (fun r hr => ?_), hz]
        have := (reachB_mem b 0 0 r hr).2
        simp; omega
    obtain ⟨V, hV⟩ := hW3
    by_cases hk : first b W 0 < 0
    · rw [undone_no hk] at hW2
      simp only [Bool.and_eq_true, decide_eq_true_eq] at hW2
      have hx1 : imgOf f x = [x] := by
        have h2 := hW2.2
        rw [hV, hg] at h2
        simp at h2
        rw [hg] at hW2 ⊢
        have h1 := hW2.1
        simp at h1
        rw [h1, h2]
      rw [play_next hlt (playStep_no (by rw [hW1]; exact hk))]
      have ih := back_play ok hp hi U rest (done ++ [x]) n (s + 1) p (fun y hy => hu y (by simp [hy])) (by rw [hx1] at hl; simpa using hl) (by simpa using hn)
      rw [hx1]
      simpa using ih
    · obtain ⟨i, r, hir, hhere, hfi⟩ := first_mem (t := W) (a := 0) (l := b) (by omega)
      rw [undone_some hfi hir] at hW2
      simp only [Bool.and_eq_true, decide_eq_true_eq] at hW2
      obtain ⟨w1, w2⟩ := hW2
      have hm := List.mem_of_getElem? hir
      have hbig : ¬ 4000 < ((done ++ (imgOf f x ++ rest.flatMap (imgOf f))).length : Int) - r.source.length + r.target.length := by
        rw [w1, w2]
        simp at hl ⊢
        rw [hg] at hl ⊢
        simp at hl ⊢
        omega
      rw [play_next hlt (playStep_put (hW1.trans hfi) hir hbig)]
      have hpt : putAt r (done ++ (imgOf f x ++ rest.flatMap (imgOf f))) done.length = (done ++ [x]) ++ rest.flatMap (imgOf f) := by
        unfold putAt
        rw [w1, w2, List.take_left, ← List.drop_drop, List.drop_left, List.drop_left]
      have hl2 : ((done ++ [x]) ++ rest.flatMap (imgOf f)).length ≤ 4000 := by
        rw [hg] at hl
        simp at hl ⊢
        omega
      have ih := back_play ok hp hi U rest (done ++ [x]) n (s + 1) (p + 1) (fun y hy => hu y (by simp [hy])) hl2 (by simpa using hn)
      rw [hpt, sure_cur (plainR_sure hp) hm, w2, show done.length + [x].length = (done ++ [x]).length by simp]
      simpa using ih

/-! ### the two laws -/
theorem pairV_parts {f b : List Rule} {d : List Sp} (h : pairV f b d = true) :
    (wrongRules f).1 = 0 ∧ (wrongRules b).1 = 0 ∧ wrongSet d = 0 ∧ plainR f = true ∧ plainR b = true ∧ blocked f (unitsL d) = false ∧ imgsOk f (unitsL d) = true ∧
    ∀ x ∈ unitsL d, undoneB b (imgOf f x) (imgOf f x).length x = true ∧ ∀ y ∈ unitsL d, (reachB b 0 0).2 ≤ (imgOf f x).length + (imgOf f y).length ∧ undoneB b (imgOf f x ++ imgOf f y) (imgOf f x).length x = true := by
  unfold pairV at h
  simp only [Bool.and_eq_true, decide_eq_true_eq] at h
  obtain ⟨⟨he, hp1, hp2⟩, hB⟩ := h
  unfold pairE at he
  by_cases h0 : (wrongRules f).1 = 0
  · rw [if_neg (by simpa using h0)] at he
    by_cases h1 : (wrongRules b).1 = 0
    · rw [if_neg (by simpa using h1)] at he
      by_cases h2 : wrongSet d = 0
      · unfold pairB at hB
        simp only [Bool.and_eq_true, Bool.not_eq_true'] at hB
        obtain ⟨⟨hb1, hb2⟩, hb3⟩ := hB
        refine ⟨h0, h1, h2, hp1, hp2, hb1, hb2, fun x hx => ?_⟩
        have hz : (imgOf f x, x) ∈ (imgs f (unitsL d)).zip (unitsL d) := by
          unfold imgs
          obtain ⟨i, hi⟩ := List.getElem?_of_mem hx
          refine List.mem_of_getElem? (i := i) ?_
          rw [List.getElem?_zip_eq_some]
          exact ⟨by rw [List.getElem?_map, hi]; rfl, hi⟩
        have ho := List.all_eq_true.1 hb3 _ hz
        unfold outerB at ho
        simp only [Bool.and_eq_true] at ho
        refine ⟨ho.1, fun y hy => ?_⟩
        have hin := List.all_eq_true.1 ho.2 (imgOf f y) (by unfold imgs; exact List.mem_map.2 ⟨y, hy, rfl⟩)
        simpa using hin
      · rw [if_pos h2] at he; exact absurd he h2
    · rw [if_pos h1] at he; exact absurd he h1
  · rw [if_pos h0] at he; exact absurd he h0

theorem imgs_right {f : List Rule} (ok : ∀ r ∈ f, OkRule r) {t : List Int} (h : t.all right = true) : (t.flatMap (imgOf f)).all right = true := by
  rw [List.all_eq_true] at h ⊢
  intro y hy
  obtain ⟨x, hx, hyx⟩ := List.mem_flatMap.1 hy
  by_cases hf : first f [x] 0 < 0
  · rw [imgOf_no hf] at hyx; simp at hyx; subst hyx; exact h y hx
  · obtain ⟨i, r, hir, _, hfi⟩ := first_mem (t := [x]) (a := 0) (l := f) (by omega)
    rw [imgOf_some hfi hir] at hyx
    exact List.all_eq_true.1 (ok r (List.mem_of_getElem? hir)).tr y hyx

/-- what comes of a text of the domain: too much, what is no rune, or the images; and these are undone -/
theorem undone_law {f b : List Rule} {d : List Sp} (h : pairV f b d = true) {t : List Int} (ht : ∀ x ∈ t, has d x = true) :
    ((runF f t).1 = 4 ∨ (runF f t).1 = 3) ∨ (runF f t = (0, 0) ∧ (runF b (runAll f t).text) = (0, 0) ∧ (runAll b (runAll f t).text).text = t) := by
  obtain ⟨h0, h1, h2, p1, p2, hb, hi, U⟩ := pairV_parts h
  have hG := good_of h2
  have okf := (wrongRules_zero h0).2.2
  have okb := (wrongRules_zero h1).2.2
  have hu : ∀ x ∈ t, x ∈ unitsL d := fun x hx => (units_mem (fun y hy => hG.rng y hy) x).2 (ht x hx)
  by_cases hw : wrongText t = 0
  · have htl := (text_of hw).1
    have hc : (checkRun f t).1 = 0 := by rw [checkRun_text h0]; exact hw
    have hA := forth_play okf p1 hb t [] (8 * t.length + 40) 0 0 hu (by simpa using htl) (by omega)
    simp only [List.nil_append, List.length_nil] at hA
    change (runText f t).err = 4 ∨ (runText f t).err = 0 ∧ (runText f t).text = t.flatMap (imgOf f) ∧ (t.flatMap (imgOf f)).length ≤ 4000 at hA
    rcases hA with hA | ⟨a1, a2, a3⟩
    · left; left; rw [runF_ok hc, hA]
    · right
      have hw2 : wrongText (t.flatMap (imgOf f)) = 0 := by
        unfold wrongText
        rw [if_neg (by omega), if_neg (by rw [imgs_right okf (text_of hw).2]; simp)]
      have hc2 : (checkRun b (t.flatMap (imgOf f))).1 = 0 := by rw [checkRun_text h1]; exact hw2
      have hlen : t.length ≤ (t.flatMap (imgOf f)).length := by
        clear hw htl hc a1 a2 a3 hw2 hc2 ht
        induction t with
        | nil => simp
        | cons x r ih =>
          have hx := List.all_eq_true.1 hi x (hu x (by simp))
          have := ih (fun y hy => hu y (by simp [hy]))
          cases hg : imgOf f x with
          | nil => rw [hg] at hx; simp at hx
          | cons g gs => simp only [List.flatMap_cons, List.length_append, hg, List.length_cons]; omega
      have hB := back_play okb p2 hi U t [] (8 * (t.flatMap (imgOf f)).length + 40) 0 0 hu (by simpa using a3) (by omega)
      simp only [List.nil_append, List.length_nil] at hB
      change (runText b (t.flatMap (imgOf f))).err = 0 ∧ (runText b (t.flatMap (imgOf f))).text = t at hB
      rw [runAll_ok hc, a2, runF_ok hc, a1, runF_ok hc2, runAll_ok hc2, hB.1]
      exact ⟨rfl, rfl, hB.2⟩
  · left
    have hw3 : wrongText t = 4 ∨ wrongText t = 3 := by
      unfold wrongText at hw ⊢
      split
      · exact .inl rfl
      · rename_i hb'
        rw [if_neg hb'] at hw
        split
        · exact .inr rfl
        · rename_i hr
          rw [if_neg hr] at hw
          exact absurd rfl hw
    rw [runF_bad (by rw [checkRun_text h0]; exact hw), checkRun_text h0]
    exact hw3
theorem apart_law {f b : List Rule} {d : List Sp} (h : pairV f b d = true) {t u : List Int} (ht : ∀ x ∈ t, has d x = true) (hu : ∀ x ∈ u, has d x = true) (h1 : runF f t = (0, 0)) (h2 : runF f u = (0, 0)) (he : (runAll f t).text = (runAll f u).text) : t = u := by
  rcases undone_law h ht with h3 | ⟨_, _, h3⟩
  · rw [h1] at h3; simp at h3
  · rcases undone_law h hu with h4 | ⟨_, _, h4⟩
    · rw [h2] at h4; simp at h4
    · rw [← h3, ← h4, he]

end Go.Proofs.Ytfdkbhbnldcbmaa
