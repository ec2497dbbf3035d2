/- Parts: Wa. -/
import Derived.Test.YtbdjcmhfcdamiaaGreatDoorQ0
import Derived.Test.YtbdjcmhfcdamiaaGreatDoorQ1
import Derived.Lib.Hide
/- Contracts of small functions of the reader. -/
namespace Go.Proofs.YtbdjcmhfcdamiaaGreatDoor
open Go.RowKit

def bytesOf (s : ByteArray) : List Nat := s.data.toList.map (·.toNat)

theorem bytesOf_length (s : ByteArray) : (bytesOf s).length = s.size := by simp [bytesOf]
theorem bytesOf_getD (s : ByteArray) (k : Nat) (h : k < s.size) : (bytesOf s).getD k 0 = s[k].toNat := by
  have h' : k < s.data.size := h
  simp only [bytesOf, List.getD_eq_getElem?_getD, List.getElem?_map, Array.getElem?_toList]
  rw [Array.getElem?_eq_getElem h']; rfl
end Go.Proofs.YtbdjcmhfcdamiaaGreatDoor
