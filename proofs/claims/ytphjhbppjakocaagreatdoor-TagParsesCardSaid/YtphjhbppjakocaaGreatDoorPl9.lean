/- The document's Parse tells what the program's tells; conditions: none (a longer text is refused first). -/
import Derived.Test.YtphjhbppjakocaaGreatDoorPl8
import Derived.Test.YtphjhbppjakocaaGreatDoorPPars21
import Derived.Test.YtphjhbppjakocaaGreatDoorPPars22
namespace Go.Proofs.YtphjhbppjakocaaGreatDoor.Pl
open Go.RowKit Go.Proofs.YtphjhbppjakocaaGreatDoorW.PrintWords Go.Proofs.YtphjhbppjakocaaGreatDoor.PTag
set_option linter.unusedVariables false
def refEnd (en : Int) (rest : List Pc) (l s r : ByteArray) (V : List ByteArray) : PRes := match rest with
  | [] => (l, s, r, V, [], 0, 0)
  | p :: pt => if (low p.f0).toList = [117] then (match pt with | [] => (l, s, r, V, [], en, 70) | q :: qs => (l, s, r, V, isrt ltK (keysP ((q :: qs).length + 1) (q :: qs) []).2.2, kplc (keysP ((q :: qs).length + 1) (q :: qs) []))) else (l, s, r, V, [], p.f1, 70)
def refVars (en : Int) (ps : List Pc) (vs : List ByteArray) (l s r : ByteArray) : PRes := if (varsP ps vs).1 = 0 then refEnd en (varsP ps vs).2.1 l s r (isrt ltT (varsP ps vs).2.2) else (l, s, r, isrt ltT (varsP ps vs).2.2, [], nowAt 0 (varsP ps vs).2.1, (varsP ps vs).1)
def refRead (en : Int) (ps : List Pc) : PRes := if (headP ps).1 = true then refVars en (headP ps).2.1 [] (headP ps).2.2.1 (headP ps).2.2.2.1 (headP ps).2.2.2.2 else (E, E, E, [], [], 0, 70)
theorem cont_isrt (vs : List ByteArray) (x : ByteArray) : Lib.containsS (isrt ltT vs) x = Lib.containsS vs x := by
  rw [Bool.eq_iff_iff, Lib.containsS_iff, Lib.containsS_iff, isrt_mem]
section
variable (all : List Pc) (hsm : Sm all) (hl : all.length ≤ 65537) (en : Int) (l s r : ByteArray)
include hsm hl
theorem read_e (V : List ByteArray) (rest : List Pc) (i : Nat) (h : all.drop i = rest) (hi : i ≤ all.length) (hq : vart (L (nowT rest)) = false ∨ rest = []) : Ev (fun k => idiomref07_read.j6 k (txts all) (plcs all) en (i : Int) false l s r V) (refEnd en rest l s r V) := by
  cases rest with
  | nil =>
    have hn := at_nil h hi
    refine Ev.step (fun k => ?_) (Ev.now _)
    simp only [idiomref07_read.j6]
    rw [if_neg (by simp), if_pos hn.2]; rfl
  | cons p pt =>
    obtain ⟨a1, a2, a3, a4, a5, a6, a7⟩ := at_cons h
    have hsd := sm_drop hsm i
    rw [h] at hsd
    have hps := hsd.head
    simp only [refEnd]
    by_cases hu : (low p.f0).toList = [117]
    · rw [if_pos hu]
      refine Ev.step (f := fun k => idiomref07_keys.f k l s r V ([] : List Ky) (txts all) (plcs all) ((i + 1 : Nat) : Int) en) (fun k => ?_) ?_
      · simp only [idiomref07_read.j6]
        rw [if_neg (by simp), if_neg a7, if_pos (by omega), if_pos a1, a3, small_f _ (by omega)]
        simp only [Option.bind_some]
        rw [if_pos hu, w64 (by omega)]
        exact Option.bind_fun_some _
      · unfold idiomref07_keys.f
        cases pt with
        | nil =>
          have hn := at_nil a5 (by omega)
          simp only [if_pos hn.2]
          exact Ev.now _
        | cons q qs =>
          have hq := at_cons a5
          simp only [if_neg hq.2.2.2.2.2.2]
          exact keysR_l all hsm hl l s r V ((q :: qs).length + 1) (q :: qs) [] (i + 1) a5 (by omega) (by omega) (by simp)
    · rw [if_neg hu]
      refine Ev.step (fun k => ?_) (Ev.now _)
      simp only [idiomref07_read.j6]
      rw [if_neg (by simp), if_neg a7, if_pos (by omega), if_pos a1, a3, small_f _ (by omega)]
      simp only [Option.bind_some]
      rw [if_neg hu, if_pos a2, a4]
theorem read_v : ∀ (ps : List Pc) (vs : List ByteArray) (i : Nat), all.drop i = ps → i ≤ all.length → vs.length ≤ 64 → Ev (fun k => idiomref07_read.l0 k (txts all) (plcs all) en (i : Int) l s r (isrt ltT vs)) (refVars en ps vs l s r) := by
  intro ps
  induction ps with
  | nil =>
    intro vs i h hi hv
    have hn := at_nil h hi
    refine Ev.step (fun k => ?_) (read_e all hsm hl en l s r (isrt ltT vs) [] i h hi (.inr rfl))
    simp only [idiomref07_read.l0]
    rw [if_neg hn.1]
  | cons p ps ih =>
    intro vs i h hi hv
    obtain ⟨a1, a2, a3, a4, a5, a6, a7⟩ := at_cons h
    have hsd := sm_drop hsm i
    rw [h] at hsd
    have hps := hsd.head
    refine Ev.step (f := fun k => (idiomref07_variant.f k p.f0).bind fun t => idiomref07_read.j6 k (txts all) (plcs all) en (i : Int) t l s r (isrt ltT vs)) (fun k => ?_) (Ev.bind (rvariant_f p.f0 (by omega)) ?_)
    · simp only [idiomref07_read.l0]
      rw [if_pos a1, if_pos (by omega), a3]
    · cases hs : vart (L p.f0) with
      | false =>
        have e : varsP (p :: ps) vs = (0, p :: ps, vs) := by simp [varsP, hs]
        unfold refVars
        rw [e]
        exact read_e all hsm hl en l s r (isrt ltT vs) (p :: ps) i h hi (.inl hs)
      | true =>
        refine Ev.step (f := fun k => (idiomref07_put.f k (isrt ltT vs) (low p.f0)).bind fun bt => if bt.2 = true then (if (bt.1.length : Int) > 64 then some (l, s, r, isrt ltT vs, [], p.f1, 5) else idiomref07_read.l0 k (txts all) (plcs all) en ((i + 1 : Nat) : Int) l s r bt.1) else some (l, s, r, isrt ltT vs, [], p.f1, 6)) (fun k => ?_) (Ev.bind (put_f _ _ (by rw [isrt_len]; exact hv)) ?_)
        · simp only [idiomref07_read.j6]
          rw [if_pos trivial, if_pos (by omega), if_pos a1, a3, small_f _ (by omega), a4, w64 (by omega)]
          simp only [Option.bind_some, if_pos a2]
          rfl
        · rw [cont_isrt]
          unfold refVars
          cases hh : Lib.containsS vs (low p.f0) with
          | true =>
            have e : varsP (p :: ps) vs = (6, p :: ps, vs) := by simp [varsP, hs, hh]
            rw [e]
            exact Ev.now _
          | false =>
            simp only [Bool.false_eq_true, if_false, if_true]
            rw [← isrt_snoc, isrt_len]
            simp only [List.length_append, List.length_cons, List.length_nil]
            by_cases h64 : vs.length = 64
            · have e : varsP (p :: ps) vs = (5, p :: ps, vs) := by simp [varsP, hs, hh, h64]
              rw [e, h64]
              exact Ev.now _
            · have e : varsP (p :: ps) vs = varsP ps (vs ++ [low p.f0]) := by simp [varsP, hs, hh, h64]
              rw [e]
              simp only [if_neg (show ¬ ((vs.length + (0 + 1) : Nat) : Int) > 64 by omega)]
              exact ih _ (i + 1) a5 (by omega) (by simp; omega)
theorem read_r (hr : r = E) (ps : List Pc) (i : Nat) (h : all.drop i = ps) (hi : i ≤ all.length) : Ev (fun k => idiomref07_read.j2 k (txts all) (plcs all) en (i : Int) l s r) (refVars en (headRP ps l s).2.1 [] l s (headRP ps l s).2.2.2.2) := by
  subst hr
  have stop : ∀ q : Bool, q = false → headRP ps l s = (true, ps, l, s, E) → Ev (fun k => idiomref07_read.j3 k (txts all) (plcs all) en (i : Int) q l s E) (refVars en (headRP ps l s).2.1 [] l s (headRP ps l s).2.2.2.2) := by
    intro q hq e
    rw [e, hq]
    refine Ev.step (f := fun k => idiomref07_read.j4 k (txts all) (plcs all) en (i : Int) l s E) (fun k => ?_) (Ev.step (f := fun k => idiomref07_read.l0 k (txts all) (plcs all) en (i : Int) l s E (isrt ltT [])) (fun k => rfl) (read_v all hsm hl en l s E ps [] i h hi (by simp)))
    simp only [idiomref07_read.j3]
    rw [if_neg (by simp)]
  cases ps with
  | nil =>
    have hn := at_nil h hi
    refine Ev.step (f := fun k => idiomref07_read.j3 k (txts all) (plcs all) en (i : Int) false l s E) (fun k => ?_) (stop _ rfl rfl)
    simp only [idiomref07_read.j2]
    rw [if_neg hn.1]
  | cons p pt =>
    obtain ⟨a1, a2, a3, a4, a5, a6, a7⟩ := at_cons h
    have hsd := sm_drop hsm i
    rw [h] at hsd
    have hps := hsd.head
    refine Ev.step (f := fun k => (idiomref07_region.f k p.f0).bind fun t => idiomref07_read.j3 k (txts all) (plcs all) en (i : Int) t l s E) (fun k => ?_) (Ev.bind (rregion_f p.f0 (by omega)) ?_)
    · simp only [idiomref07_read.j2]
      rw [if_pos a1, if_pos (by omega), a3]
    · cases hs : regn (L p.f0) with
      | false => exact stop _ rfl (by show (if regn (L p.f0) = true then _ else _) = _; rw [hs, if_neg (by simp)])
      | true =>
        have e : headRP (p :: pt) l s = (true, pt, l, s, upp p.f0) := by show (if regn (L p.f0) = true then _ else _) = _; rw [hs, if_pos rfl]; rfl
        rw [e]
        refine Ev.step (f := fun k => idiomref07_read.j4 k (txts all) (plcs all) en ((i + 1 : Nat) : Int) l s (upp p.f0)) (fun k => ?_) (Ev.step (f := fun k => idiomref07_read.l0 k (txts all) (plcs all) en ((i + 1 : Nat) : Int) l s (upp p.f0) (isrt ltT [])) (fun k => rfl) (read_v all hsm hl en l s (upp p.f0) pt [] (i + 1) a5 (by omega) (by simp)))
        simp only [idiomref07_read.j3]
        rw [if_pos trivial, if_pos (by omega), if_pos a1, a3, great_f _ (by omega), w64 (by omega)]
        rfl
theorem read_s (hs' : s = E) (hr : r = E) (ps : List Pc) (i : Nat) (h : all.drop i = ps) (hi : i ≤ all.length) : Ev (fun k => idiomref07_read.j0 k (txts all) (plcs all) en (i : Int) l s r) (refVars en (headSP ps l).2.1 [] l (headSP ps l).2.2.2.1 (headSP ps l).2.2.2.2) := by
  subst hs'
  have hR : ∀ (qs : List Pc) (x : ByteArray), (headRP qs l x).2.2.2.1 = x := by intro qs x; unfold headRP; split <;> rfl
  have stop : ∀ q : Bool, q = false → headSP ps l = headRP ps l E → Ev (fun k => idiomref07_read.j1 k (txts all) (plcs all) en (i : Int) q l E r) (refVars en (headSP ps l).2.1 [] l (headSP ps l).2.2.2.1 (headSP ps l).2.2.2.2) := by
    intro q hq e
    rw [e, hR, hq]
    refine Ev.step (fun k => ?_) (read_r all hsm hl en l E r hr ps i h hi)
    simp only [idiomref07_read.j1]
    rw [if_neg (by simp)]
  cases ps with
  | nil =>
    have hn := at_nil h hi
    refine Ev.step (f := fun k => idiomref07_read.j1 k (txts all) (plcs all) en (i : Int) false l E r) (fun k => ?_) (stop _ rfl rfl)
    simp only [idiomref07_read.j0]
    rw [if_neg hn.1]
  | cons p pt =>
    obtain ⟨a1, a2, a3, a4, a5, a6, a7⟩ := at_cons h
    have hsd := sm_drop hsm i
    rw [h] at hsd
    have hps := hsd.head
    refine Ev.step (f := fun k => (idiomref07_script.f k p.f0).bind fun t => idiomref07_read.j1 k (txts all) (plcs all) en (i : Int) t l E r) (fun k => ?_) (Ev.bind (script_f p.f0 (by omega)) ?_)
    · simp only [idiomref07_read.j0]
      rw [if_pos a1, if_pos (by omega), a3]
    · cases hs : lets (L p.f0) 4 4 with
      | false => exact stop _ rfl (by show (if lets (L p.f0) 4 4 = true then _ else _) = _; rw [hs, if_neg (by simp)])
      | true =>
        have h4 : 4 ≤ p.f0.size := by have := (lets_pos hs).1; rwa [L_len] at this
        have e : headSP (p :: pt) l = headRP pt l (titl p.f0) := by show (if lets (L p.f0) 4 4 = true then _ else _) = _; rw [hs, if_pos rfl]; rfl
        rw [e, hR]
        refine Ev.step (fun k => ?_) (read_r all hsm hl en l (titl p.f0) r hr pt (i + 1) a5 (by omega))
        simp only [idiomref07_read.j1]
        rw [if_pos trivial, if_pos (by omega), if_pos a1, a3, rtitle_f _ (by omega), if_neg (by omega), w64 (by omega)]
        rfl
end
theorem headSP_l (ps : List Pc) (l : ByteArray) : (headSP ps l).1 = true ∧ (headSP ps l).2.2.1 = l := by
  unfold headSP headRP
  split <;> split <;> exact ⟨rfl, rfl⟩
theorem rread_f (ps : List Pc) (hsm : Sm ps) (hl : ps.length ≤ 65537) (en : Int) (hne : ps ≠ []) : Ev (fun k => idiomref07_read.f k (txts ps) (plcs ps) en) (refRead en ps) := by
  cases ps with
  | nil => exact absurd rfl hne
  | cons p pt =>
    obtain ⟨a1, a2, a3, a4, a5, a6, a7⟩ := at_cons (all := p :: pt) (i := 0) rfl
    have hps := hsm.head
    unfold idiomref07_read.f
    rw [show ((0 : Nat) : Int) = 0 from rfl] at a1 a3
    simp only [if_pos a1, a3]
    refine Ev.bind (lang_f p.f0 (by omega)) ?_
    have e : headP (p :: pt) = if lets (L p.f0) 2 3 = true then headSP pt (keptLang (low p.f0)) else (false, p :: pt, E, E, E) := rfl
    unfold refRead
    rw [e]
    cases hs : lets (L p.f0) 2 3 with
    | false => simpa using Ev.now _
    | true =>
      simp only [if_true]
      have hh := headSP_l pt (keptLang (low p.f0))
      have main := read_s (p :: pt) hsm hl en (keptLang (low p.f0)) E E rfl rfl pt 1 rfl (by simp)
      rw [if_pos hh.1, hh.2]
      rw [small_f _ (by omega)]
      simp only [Option.bind_some]
      unfold keptLang at main ⊢
      by_cases hu : (low p.f0).toList = [117, 110, 100]
      · simp only [if_pos hu] at main ⊢
        exact main
      · simp only [if_neg hu] at main ⊢
        exact main
end Go.Proofs.YtphjhbppjakocaaGreatDoor.Pl
