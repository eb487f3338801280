/- What both Prints tell of a tag, and the law TagPrints: true of every tag of texts of at most 1048576 bytes and rows of at most 1048576 places; conditions: those. -/
import Derived.Test.YtphjhbppjakocaaGreatDoorTxt2
import Derived.Test.YtphjhbppjakocaaGreatDoorPU21
namespace Go.Proofs.YtphjhbppjakocaaGreatDoor.Pl
open Go.RowKit Go.Proofs.YtphjhbppjakocaaGreatDoorW.PrintWords Go.Proofs.YtphjhbppjakocaaGreatDoor.PTag
set_option linter.unusedVariables false
theorem checkP_few {l s r : ByteArray} {V : List ByteArray} {K : List Ke} (h : checkP l s r V K = 0) : V.length ≤ 64 ∧ K.length ≤ 64 := by
  unfold checkP at h
  split at h
  · split at h
    · split at h
      · unfold contP at h
        split at h
        · exact absurd h (by omega)
        · rename_i h1
          split at h
          · unfold restK at h
            split at h
            · exact absurd h (by omega)
            · rename_i h2; exact ⟨by omega, by omega⟩
          · rename_i h2; exact absurd h h2
      · exact absurd h (by omega)
    · exact absurd h (by omega)
  · exact absurd h (by omega)
def printP (l s r : ByteArray) (V : List ByteArray) (K : List Ke) : ByteArray × Int :=
  if checkP l s r V K = 0 then (if (joinT (parts l s r V K)).size ≤ 65536 then (joinT (parts l s r V K), 0) else (⟨#[]⟩, 2)) else (⟨#[]⟩, checkP l s r V K)
theorem awake_f1 : Ev (fun k => idiomlaw07_awake.f k) true := Ev.of (fun k => idiomlaw07_awake.mono k) (k := 20) (by kernel_rfl)
section
variable {l s r : ByteArray} {V : List ByteArray} {K : List Ke} (z : Sz l s r V K)
include z
theorem print_f : Ev (fun k => tag_Print.f k l s r V K) (printP l s r V K) := by
  unfold tag_Print.f printP
  refine Ev.bind (check_f z) ?_
  by_cases h : checkP l s r V K = 0
  · obtain ⟨h1, h2⟩ := checkP_few h
    simp only [if_pos h]
    refine Ev.bind (text_f z h1 h2) ?_
    by_cases h3 : (joinT (parts l s r V K)).size ≤ 65536
    · simp only [if_pos h3, if_neg (show ¬ (((joinT (parts l s r V K)).size : Int) > 65536) by omega)]; exact Ev.now _
    · simp only [if_neg h3, if_pos (show (((joinT (parts l s r V K)).size : Int) > 65536) by omega)]; exact Ev.now _
  · simp only [if_neg h]; exact Ev.now _
theorem rprint_f : Ev (fun k => idiomref07_Print.f k l s r V K) (printP l s r V K) := by
  unfold idiomref07_Print.f printP
  refine Ev.bind (rcheck_f z) ?_
  by_cases h : checkP l s r V K = 0
  · obtain ⟨h1, h2⟩ := checkP_few h
    simp only [if_pos h]
    refine Ev.bind (rtext_f z h2 h1) ?_
    by_cases h3 : (joinT (parts l s r V K)).size ≤ 65536
    · simp only [if_pos h3, if_pos (show (((joinT (parts l s r V K)).size : Int) ≤ 65536) by omega)]; exact Ev.now _
    · simp only [if_neg h3, if_neg (show ¬ (((joinT (parts l s r V K)).size : Int) ≤ 65536) by omega)]; exact Ev.now _
  · simp only [if_neg h]; exact Ev.now _
theorem copy_f : idiomref07_Copy.f l s r V K = some (l, s, r, V, K) := by
  have h1 := z.nV
  have h2 := z.nK
  unfold idiomref07_Copy.f
  simp only [Option.bind_some, List.nil_append, List.length_nil, Nat.zero_add]
  rw [if_pos (by omega), if_pos (by omega)]
theorem TagPrints : Ev (fun k => idiomlaw07_TagPrints.f k l s r V K) true := by
  unfold idiomlaw07_TagPrints.f
  rw [copy_f z]
  simp only [Option.bind_some]
  refine Ev.bind (print_f z) (Ev.bind (rprint_f z) ?_)
  simp only [if_true]
  refine Ev.bind (check_f z) (Ev.bind (rcheck_f z) ?_)
  simp only [if_true]
  exact Ev.bind awake_f1 (Ev.now _)
end
end Go.Proofs.YtphjhbppjakocaaGreatDoor.Pl
