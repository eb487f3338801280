/- The law ListsNests, printed, tells yes; conditions: none. -/
import Derived.Test.YtalojokihccboaaLiAwake
import Derived.Test.YtalojokihccboaaPListsx12
namespace Go.Proofs.Ytalojokihccboaa.Pl
open Go.RowKit Go.Proofs.YtalojokihccboaaW.PrintWords Go.Proofs.Ytalojokihccboaa.PLists Pat
theorem jn_zero {a b c d : ByteArray} {l : List ByteArray} (h : (jn a b c d l).2 = 0) : ccode a b c d = 0 ∧ l.length ≤ 256 ∧ (jg (pat a b c d l.length) 0 l).length ≤ 1048576 ∧ (jn a b c d l).1 = S (jg (pat a b c d l.length) 0 l) := by
  unfold jn at h ⊢
  by_cases hc : ccode a b c d = 0
  · rw [if_pos hc] at h ⊢
    by_cases h5 : 256 < l.length
    · rw [if_pos h5] at h; cases h
    · rw [if_neg h5] at h ⊢
      by_cases hl : (jg (pat a b c d l.length) 0 l).length ≤ 1048576
      · exact ⟨hc, by omega, hl, by rw [res_yes hl]⟩
      · rw [res_no hl] at h; cases h
  · rw [if_neg hc] at h
    exact absurd h hc
theorem nests_j {a b c d : ByteArray} {l : List ByteArray} (x y : ByteArray) : Ev (fun k => idiomlaw13_ListsNests.j0 k l x (jn a b c d l).2 y true a b c d) true := by
  refine Ev.step (f := fun k => (idiomref13_Join.f k a b c d l).bind fun bt239 => if (jn a b c d l).2 = bt239.2 then (idiomlaw13_awake.f k).bind fun t241 => some t241 else some false) (fun k => ?_) ?_
  · simp only [idiomlaw13_ListsNests.j0]
    rw [if_pos trivial]
  · refine Ev.bind RJoin_f ?_
    simp only [if_true]
    exact Ev.bind awake_f (Ev.now _)
theorem nests_true (a b c d : ByteArray) (l : List ByteArray) : Ev (fun k => idiomlaw13_ListsNests.f k a b c d l) true := by
  unfold idiomlaw13_ListsNests.f
  by_cases h4 : (l.length : Int) < 4
  · simp only [if_pos h4]
    exact Ev.bind awake_f (Ev.now _)
  · simp only [if_neg h4, if_pos (show (1 : Int) ≤ (l.length : Int) by omega)]
    refine Ev.bind Join_f ?_
    refine Ev.bind Join_f ?_
    by_cases h1 : (jn a b c d l).2 = 0
    · simp only [if_pos h1]
      by_cases h2 : (jn a c c d (l.drop 1)).2 = 0
      · obtain ⟨hcc, hl, hT, e1⟩ := jn_zero h1
        obtain ⟨_, _, _, e2⟩ := jn_zero h2
        obtain ⟨ha, hb, hc, hd⟩ := ccode_zero hcc
        rw [e1, e2]
        have hn : ((jn a c c d (l.drop 1)).2 != 0) = false := by rw [h2]; rfl
        rw [hn]
        match l, h4, hT, hl with
        | [], h4, _, _ => exact absurd (by decide) h4
        | [x], h4, _, _ => exact absurd (by simp only [List.length_cons, List.length_nil]; omega) h4
        | x :: y :: r, h4, hT, hl =>
          simp only [List.length_cons] at h4 hl
          simp only [List.drop_succ_cons, List.drop_zero]
          have hs : jg (pat a c c d (y :: r).length) 0 (y :: r) = jg (pat a b c d (x :: y :: r).length) (0 + 1) (y :: r) := by
            refine jg_shift (fun i => ?_) _ _
            have e1 : (y :: r).length = r.length + 1 := rfl
            have e2 : (x :: y :: r).length = r.length + 2 := rfl
            have k0 : 2 ≤ r.length := by omega
            have k1 : ¬ r.length + 1 = 2 := by omega
            have k2 : ¬ r.length + 2 = 2 := by omega
            have k3 : ¬ i + 1 = 0 := by omega
            unfold pat
            rw [e1, e2, if_neg k1, if_neg k2, if_neg k3]
            by_cases g : i = r.length + 1 - 2
            · have g' : i + 1 = r.length + 2 - 2 := by omega
              rw [if_pos g, if_pos g']
            · have g' : ¬ i + 1 = r.length + 2 - 2 := by omega
              rw [if_neg g, if_neg g']
              by_cases k : i = 0
              · rw [if_pos k]
              · rw [if_neg k]
          have hp : pat a b c d (x :: y :: r).length 0 = b := by
            unfold pat
            simp only [List.length_cons]
            rw [if_neg (by omega), if_neg (by omega), if_pos trivial]
          have hr : rng b x (S (jg (pat a c c d (y :: r).length) 0 (y :: r))) = (S (jg (pat a b c d (x :: y :: r).length) 0 (x :: y :: r)), 0) := by
            unfold rng
            rw [if_pos hb, LS, hs]
            have e : fl b (L x) (jg (pat a b c d (x :: y :: r).length) (0 + 1) (y :: r)) = jg (pat a b c d (x :: y :: r).length) 0 (x :: y :: r) := by
              rw [jg, hp]
            rw [e, res_yes hT]
          refine Ev.step (f := fun k => (lists_Range.f k b x (S (jg (pat a c c d (y :: r).length) 0 (y :: r)))).bind fun bt243 => (if bt243.2 = 0 then (if (S (jg (pat a b c d (x :: y :: r).length) 0 (x :: y :: r))).toList = bt243.1.toList then ((idiomlaw13_awake.f k).bind fun t245 => (some t245)) else (some false)) else (some false))) (fun k => ?_) ?_
          · simp only [idiomlaw13_ListsNests.j0]
            rw [if_neg (by decide), if_pos (by simp only [List.length_cons]; omega)]
            rfl
          · refine Ev.bind (Range_f _ _ _) ?_
            rw [hr]
            simp only [if_true]
            exact Ev.bind awake_f (Ev.now _)
      · have hn : ((jn a c c d (l.drop 1)).2 != 0) = true := by simpa using h2
        rw [hn]
        exact nests_j _ _
    · simp only [if_neg h1]
      exact nests_j _ _
end Go.Proofs.Ytalojokihccboaa.Pl
