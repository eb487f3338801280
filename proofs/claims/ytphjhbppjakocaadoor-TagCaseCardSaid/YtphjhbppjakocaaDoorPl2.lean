/- What the document's functions on one text come to, in the same words as the program's; letters made small, great; conditions: texts' lengths as each states. -/
import Derived.Test.YtphjhbppjakocaaDoorPl1
namespace Go.Proofs.YtphjhbppjakocaaDoor.Pl
open Go.RowKit Go.Proofs.YtphjhbppjakocaaDoorW.PrintWords Go.Proofs.YtphjhbppjakocaaDoor.PTag
set_option linter.unusedVariables false
/-- Letters made small, great. -/
def lowB : UInt8 → UInt8 := tag_lower.g
def upB : UInt8 → UInt8 := tag_upper.g
def low (s : ByteArray) : ByteArray := S ((L s).map lowB)
def upp (s : ByteArray) : ByteArray := S ((L s).map upB)
theorem low_size (s : ByteArray) : (low s).size = s.size := by unfold low; rw [S_size, List.length_map, L_len]
theorem upp_size (s : ByteArray) : (upp s).size = s.size := by unfold upp; rw [S_size, List.length_map, L_len]
theorem lower_f (s : ByteArray) (hs : s.size < 9223372036854775807) : tag_lower.f s = some (low s) := by unfold tag_lower.f; rw [if_pos hs]; rfl
theorem upper_f (s : ByteArray) (hs : s.size < 9223372036854775807) : tag_upper.f s = some (upp s) := by unfold tag_upper.f; rw [if_pos hs]; rfl
/-- The first letter great, the others small. -/
def titl (s : ByteArray) : ByteArray := upp (s.extract 0 1) ++ low (s.extract 1 s.size)
theorem ext_size (s : ByteArray) (a b : Nat) : (s.extract a b).size = min b s.size - a := by simp
theorem title_f (s : ByteArray) (hs : s.size < 9223372036854775807) (h1 : 1 ≤ s.size) : tag_title.f s = some (titl s) := by
  have e1 : (s.extract 0 1).size ≤ s.size := by rw [ext_size]; omega
  have e2 : (s.extract 1 s.size).size + (s.extract 0 1).size ≤ s.size := by rw [ext_size, ext_size]; omega
  unfold tag_title.f
  rw [if_pos (by omega), if_pos (by omega), upper_f _ (by omega), lower_f _ (by omega)]
  simp only [Option.bind_some]
  rw [upp_size, low_size, if_pos (by omega)]
  rfl
end Go.Proofs.YtphjhbppjakocaaDoor.Pl
