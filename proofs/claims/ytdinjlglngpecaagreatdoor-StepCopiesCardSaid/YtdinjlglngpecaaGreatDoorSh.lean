/- Contract of package step: line. No condition. -/
import Derived.Test.YtdinjlglngpecaaGreatDoorSc
namespace Go.Proofs.YtdinjlglngpecaaGreatDoor
open Go.RowKit

section
variable {w : World} {X : List Nat} {ox : Option Addr} {cx : Nat}
set_option maxRecDepth 100000 in
set_option maxHeartbeats 3200000 in
theorem sline_call (hX : Src w (.slice ox X.length cx) X.length (u8s X)) (hl : X.length ≤ 1048576) :
    Calls Tryz.prog 93 #[.slice ox X.length cx] w fun e w' => (∃ v, e = .returned v ∧ w'.ownsRow w.heap.size 5 1 v (X ++ [10]).length (u8s (X ++ [10]))) ∧ Below w.heap.size w w' := by
  have HX := Lib.hid hX
  have HL := Lib.hid hl
  have hl1 : (X.length : Int) ≤ 1048576 := by omega
  clear hX hl
  obtain ⟨i0, hi, hz0, hz1, hz2⟩ := info_parts (elU8).hi
  go_enter Tryz.func93, Tryz.ntmps93
  go_wp2_with (at_make; refine wpList_make_own _ rfl _ _ 33 rfl w.heap.size 5 i0 _ 1 Tryz.underlying33 hi hz0 hz1 .i64 .i64 ((X.length : Int) + 1) (X.length + 1) rfl rfl (by omega) (by rw [hz2]; have := HL.out; omega) (by unfold maxLen; have := HL.out; omega) (Nat.le_refl _) ?_)
  intro w1 hown hgr
  have hb1 : Below w.heap.size w w1 := (Below.refl _ _).grown hgr (Nat.le_refl _) (fun k hk => by cases hk)
  have HO1 := Lib.hid hown
  have HB1 := Lib.hid hb1
  have HX1 := Lib.hid (Src.below HX.out hb1)
  clear hown hgr hb1
  go_wp2_with (at_builtin; refine wpList_app (n := 0) (m := X.length) (xs := []) (news := u8s X) elU8 rfl _ _ rfl w.heap.size rfl HO1.out rfl HX1.out (by simp [u8s]) (u8s_one X) (by have := HL.out; unfold maxLen; omega) (by have := HL.out; omega) HB1.out.size ?_)
  intro v2 w2 ho2 hg2 _
  have ho2' : w2.ownsRow w.heap.size 5 1 v2 X.length (u8s X) := by simpa using ho2
  have hb2 : Below w.heap.size w w2 := Below.grown HB1.out hg2 HB1.out.size (fun k hk => (HO1.out.lt k hk).1)
  have HO2 := Lib.hid ho2'
  have HB2 := Lib.hid hb2
  clear ho2 ho2' hg2 hb2
  go_wp2_with (at_builtin; refine wpList_app (n := X.length) (m := 1) (news := [.int .u8 ((10 : Nat) : Nat)]) elU8 rfl _ _ rfl w.heap.size rfl (ownsRow_of_block HO2.out fun k hk => heap_alloc_old _ _ (HO2.out.lt k hk).2) rfl (Src.new w2 [.int .u8 ((10 : Nat) : Nat)] _ _ _) rfl (by simp [Value.oneCell']) (by have := HL.out; unfold maxLen; omega) (by have := HL.out; omega) (by have := HB2.out.size; simp; omega) ?_)
  intro v3 w3 ho3 hg3 _
  have hb3 : Below w.heap.size w w3 := Below.grown (Below.alloc HB2.out HB2.out.size _) hg3 (by have := HB2.out.size; simp; omega) (fun k hk => (HO2.out.lt k hk).1)
  have HO3 := Lib.hid ho3
  have HB3 := Lib.hid hb3
  clear ho3 hg3 hb3
  go_wp2_with fail
  go_ret
  exact ⟨⟨_, rfl, by rw [List.length_append, show u8s (X ++ [10]) = u8s X ++ [.int .u8 ((10 : Nat) : Nat)] by simp [u8s]]; exact HO3.out⟩, HB3.out⟩
end
end Go.Proofs.YtdinjlglngpecaaGreatDoor
