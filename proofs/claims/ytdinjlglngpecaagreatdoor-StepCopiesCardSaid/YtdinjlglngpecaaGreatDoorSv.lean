/- Contracts of package parse for the command p alone: Most, right, said. No condition. -/
import Derived.Test.YtdinjlglngpecaaGreatDoorSt
import Derived.Deep.LoopGhost
import Derived.Shelf.Small.Strs
import Derived.Test.YtdinjlglngpecaaGreatDoorChecked
namespace Go.Proofs.YtdinjlglngpecaaGreatDoor
open Go.RowKit Go.Shelf

def shp.lays137_ren : Go.Shelf.Ren := ⟨fun | 137 => 99 | 217 => 117 | 266 => 135 | n => n, fun | 9 => 9 | 5 => 5 | 3 => 3 | n => n, fun | n => n⟩
theorem shp.lays137 : Go.Proofs.Lays.n137 Tryz.prog shp.lays137_ren := {
  mixed := by kernel_rfl
  f137 := Tryz.func99.trans (congrArg some (by kernel_rfl))
  f217 := Tryz.func117.trans (congrArg some (by kernel_rfl))
  f266 := Tryz.func135.trans (congrArg some (by kernel_rfl))
  t3 := Tryz.underlying3
  a3 := Tryz.isAgg3
  z3 := Tryz.sizeOf3
  v3 := Tryz.zeroValue3
  t5 := Tryz.underlying5
  a5 := Tryz.isAgg5
  z5 := Tryz.sizeOf5
  v5 := Tryz.zeroValue5
  t9 := Tryz.underlying9
  a9 := Tryz.isAgg9
  z9 := Tryz.sizeOf9
  v9 := Tryz.zeroValue9 }
open Go.RowKit in
theorem shp.strings_IndexByte (s : ByteArray) (c : Int) (w : World) :
    Calls Tryz.prog 99 #[.string s, .int .u8 c] w fun e w' => e = .returned (.int .i64 (Lib.indexByte s.data.toList c.toNat.toUInt8)) ∧ w' = w := Any.strings_IndexByte shp.lays137 s c w
theorem ixp0 : Lib.indexByte (⟨#[125, 58]⟩ : ByteArray).data.toList (112 : Int).toNat.toUInt8 = -1 := by decide +kernel
theorem ixp1 : Lib.indexByte (⟨#[61, 97, 105, 113, 114]⟩ : ByteArray).data.toList (112 : Int).toNat.toUInt8 = -1 := by decide +kernel
theorem ixp2 : Lib.indexByte (⟨#[123, 98, 99, 100, 68, 103, 71, 104, 72, 108, 110, 78, 112, 80, 115, 116, 119, 120, 121]⟩ : ByteArray).data.toList (112 : Int).toNat.toUInt8 = 12 := by decide +kernel
/-- The cells of the command p. -/
structure PcV (l : List Value) : Prop where
  cl : CmdL l
  a0 : l[0]? = some (.int .i8 0)
  a1 : l[1]? = some (.int .i64 0)
  a2 : l[2]? = some (.slice none 0 0)
  b0 : l[3]? = some (.int .i8 0)
  b1 : l[4]? = some (.int .i64 0)
  b2 : l[5]? = some (.slice none 0 0)
  nt : l[6]? = some (.bool false)
  nm : l[7]? = some (.int .u8 112)
  pl : l[8]? = some (.int .i64 0)
  tx : l[9]? = some (.slice none 0 0)
  re : l[10]? = some (.slice none 0 0)
  fi : l[11]? = some (.slice none 0 0)
  co : l[12]? = some (.int .i64 0)
  al : l[13]? = some (.bool false)
  pr : l[14]? = some (.bool false)
  wr : l[15]? = some (.bool false)
  tb : l.drop 16 = List.replicate 256 (.int .u8 0)
noncomputable def pcs : List Value := Tryz.zeroCells60.toList.set 7 (.int .u8 112)
theorem PcV.mine : PcV pcs := ⟨CmdL.zero.set 7 rfl, by kernel_rfl, by kernel_rfl, by kernel_rfl, by kernel_rfl, by kernel_rfl, by kernel_rfl, by kernel_rfl, by kernel_rfl, by kernel_rfl, by kernel_rfl, by kernel_rfl, by kernel_rfl, by kernel_rfl, by kernel_rfl, by kernel_rfl, by kernel_rfl, by kernel_rfl⟩
section
variable {w w' : World} {l : List Value}
set_option maxRecDepth 100000 in
set_option maxHeartbeats 800000 in
theorem most_p : Calls Tryz.prog 69 #[.int .u8 112] w fun e w' => e = .returned (.int .i64 2) ∧ w = w' := by
  have H0 := Lib.hid (fun w => shp.strings_IndexByte ⟨#[125, 58]⟩ 112 w)
  have H1 := Lib.hid (fun w => shp.strings_IndexByte ⟨#[61, 97, 105, 113, 114]⟩ 112 w)
  have H2 := Lib.hid (fun w => shp.strings_IndexByte ⟨#[123, 98, 99, 100, 68, 103, 71, 104, 72, 108, 110, 78, 112, 80, 115, 116, 119, 120, 121]⟩ 112 w)
  rw [ixp0] at H0
  rw [ixp1] at H1
  rw [ixp2] at H2
  go_enter Tryz.func69, Tryz.ntmps69
  go_wp2_with fail
  refine (H0.out _).mono ?_; rintro e w1 ⟨rfl, rfl⟩
  go_wp2_with fail
  refine (H1.out _).mono ?_; rintro e w1 ⟨rfl, rfl⟩
  go_wp2_with fail
  refine (H2.out _).mono ?_; rintro e w1 ⟨rfl, rfl⟩
  go_wp2_with fail
  go_ret
  exact ⟨rfl, rfl⟩
set_option maxRecDepth 100000 in
set_option maxHeartbeats 800000 in
theorem right_0 : Calls Tryz.prog 70 #[.agg #[.int .i8 0, .int .i64 0, .slice none 0 0]] w fun e w' => e = .returned (.bool true) ∧ Below w.heap.size w w' := by
  go_enter Tryz.func70, Tryz.ntmps70
  go_wp2_with fail
  go_ret
  exact ⟨rfl, (Below.refl _ _).alloc (Nat.le_refl _) _⟩
set_option maxRecDepth 100000 in
set_option maxHeartbeats 1600000 in
theorem said_p (h : PcV l) : Calls Tryz.prog 71 #[.agg l.toArray] w fun e w' => e = .returned (.bool true) ∧ Below w.heap.size w w' := by
  have hb := CmB.new h.cl w
  have c7 : (w.alloc (.cells l.toArray 60)).cell? ⟨w.heap.size, 7, none⟩ = some (.int .u8 112) := (hb.cell 7).trans h.nm
  have c9 : (w.alloc (.cells l.toArray 60)).cell? ⟨w.heap.size, 9, none⟩ = some (.slice none 0 0) := (hb.cell 9).trans h.tx
  have HB := Lib.hid ((Below.refl w.heap.size w).alloc (Nat.le_refl _) (.cells l.toArray 60))
  have hl := new_lt w (.cells l.toArray 60)
  clear h hb
  go_enter Tryz.func71, Tryz.ntmps71
  go_upto_region 1 with fail
  obtain ⟨W, hW⟩ : ∃ W, w.alloc (.cells l.toArray 60) = W := ⟨_, rfl⟩
  rw [hW] at HB c7 c9 hl ⊢
  clear hW
  obtain ⟨b, hbz⟩ : ∃ b, w.heap.size = b := ⟨_, rfl⟩
  rw [hbz] at c7 c9 hl ⊢
  have HZ := Lib.hid hbz
  clear hbz
  go_wp2_with fail
  go_ret
  exact ⟨rfl, HB.out⟩
set_option maxRecDepth 100000 in
set_option maxHeartbeats 1600000 in
theorem writes_p (h7 : l[7]? = some (.int .u8 112)) (hc : CmdL l) : Calls Tryz.prog 34 #[.agg l.toArray] w fun e w' => e = .returned (.bool false) ∧ Below w.heap.size w w' := by
  have hb := CmB.new hc w
  have c7 : (w.alloc (.cells l.toArray 60)).cell? ⟨w.heap.size, 7, none⟩ = some (.int .u8 112) := (hb.cell 7).trans h7
  have HB := Lib.hid ((Below.refl w.heap.size w).alloc (Nat.le_refl _) (.cells l.toArray 60))
  have hl := new_lt w (.cells l.toArray 60)
  clear h7 hc hb
  go_enter Tryz.func34, Tryz.ntmps34
  go_upto_region 1 with fail
  obtain ⟨W, hW⟩ : ∃ W, w.alloc (.cells l.toArray 60) = W := ⟨_, rfl⟩
  rw [hW] at HB c7 hl ⊢
  clear hW
  obtain ⟨b, hbz⟩ : ∃ b, w.heap.size = b := ⟨_, rfl⟩
  rw [hbz] at c7 hl ⊢
  have HZ := Lib.hid hbz
  clear hbz
  go_wp2_with fail
  go_ret
  exact ⟨rfl, HB.out⟩
end
end Go.Proofs.YtdinjlglngpecaaGreatDoor
