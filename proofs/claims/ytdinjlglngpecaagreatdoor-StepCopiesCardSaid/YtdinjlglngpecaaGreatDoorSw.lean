/- Contract of package parse for the command p: Shaped. No condition. -/
import Derived.Test.YtdinjlglngpecaaGreatDoorSv
namespace Go.Proofs.YtdinjlglngpecaaGreatDoor
open Go.RowKit

section
variable {w w' : World} {l : List Value}
/-- Two addresses, both none. -/
structure AdZ (w : World) (sb : Nat) : Prop where
  lt : sb < w.heap.size
  k : ∀ k, k < 2 → w.cell? ⟨sb, k * 3, none⟩ = some (.int .i8 0) ∧ w.cell? ⟨sb, k * 3 + 1, none⟩ = some (.int .i64 0) ∧ w.cell? ⟨sb, k * 3 + 2, none⟩ = some (.slice none 0 0)
set_option maxRecDepth 100000 in
set_option maxHeartbeats 6400000 in
theorem shaped_p (h : PcV l) : Calls Tryz.prog 33 #[.agg l.toArray] w fun e w' => e = .returned (.bool true) ∧ Below w.heap.size w w' := by
  have HP := Lib.hid h
  have HB := Lib.hid ((Below.refl w.heap.size w).alloc (Nat.le_refl _) (.cells l.toArray 60))
  have HN := Lib.hid (CmB.new h.cl w)
  clear h
  go_enter Tryz.func33, Tryz.ntmps33
  go_upto_region 1 with fail
  obtain ⟨W, hW⟩ : ∃ W, w.alloc (.cells l.toArray 60) = W := ⟨_, rfl⟩
  rw [hW] at HB HN ⊢
  clear hW
  obtain ⟨b, hbz⟩ : ∃ b, w.heap.size = b := ⟨_, rfl⟩
  have HBZ := Lib.hid hbz
  rw [hbz] at HN ⊢
  clear hbz
  have c7 : W.cell? ⟨b, 7, none⟩ = some (.int .u8 112) := (HN.out.cell 7).trans HP.out.nm
  have HMO := Lib.hid (most_p (w := W))
  go_wp2_with fail
  refine HMO.out.mono ?_; rintro e w1 ⟨rfl, rfl⟩
  clear HMO
  have c0 : W.cell? ⟨b, 0, none⟩ = some (.int .i8 0) := (HN.out.cell 0).trans HP.out.a0
  have c1 : W.cell? ⟨b, 1, none⟩ = some (.int .i64 0) := (HN.out.cell 1).trans HP.out.a1
  have c2 : W.cell? ⟨b, 2, none⟩ = some (.slice none 0 0) := (HN.out.cell 2).trans HP.out.a2
  have c3 : W.cell? ⟨b, 3, none⟩ = some (.int .i8 0) := (HN.out.cell 3).trans HP.out.b0
  have c4 : W.cell? ⟨b, 4, none⟩ = some (.int .i64 0) := (HN.out.cell 4).trans HP.out.b1
  have c5 : W.cell? ⟨b, 5, none⟩ = some (.slice none 0 0) := (HN.out.cell 5).trans HP.out.b2
  have hbl := HN.out.lt
  go_wp2_with fail
  have hnw := heap_alloc_new W (.cells #[.int .i8 0, .int .i64 0, .slice none 0 0, .int .i8 0, .int .i64 0, .slice none 0 0] 55)
  have hbw := (Below.refl W.heap.size W).alloc (Nat.le_refl _) (.cells #[.int .i8 0, .int .i64 0, .slice none 0 0, .int .i8 0, .int .i64 0, .slice none 0 0] 55)
  have HAR : Hid (AdZ (W.alloc (.cells #[.int .i8 0, .int .i64 0, .slice none 0 0, .int .i8 0, .int .i64 0, .slice none 0 0] 55)) W.heap.size) := Lib.hid ⟨new_lt _ _, fun k hk => by
    rcases (show k = 0 ∨ k = 1 by omega) with rfl | rfl
    · exact ⟨new_cell _ _ _ 0, new_cell _ _ _ 1, new_cell _ _ _ 2⟩
    · exact ⟨new_cell _ _ _ 3, new_cell _ _ _ 4, new_cell _ _ _ 5⟩⟩
  have HBW := Lib.hid hbw
  clear hnw hbw c0 c1 c2 c3 c4 c5 c7 hbl
  obtain ⟨sb, hsb⟩ : ∃ k, W.heap.size = k := ⟨_, rfl⟩
  have HSB := Lib.hid hsb
  obtain ⟨W2, hW2⟩ : ∃ X, W.alloc (.cells #[.int .i8 0, .int .i64 0, .slice none 0 0, .int .i8 0, .int .i64 0, .slice none 0 0] 55) = X := ⟨_, rfl⟩
  rw [hW2] at HAR HBW ⊢
  rw [hsb] at HAR ⊢
  clear hW2 hsb
  go_loopg [4, 16] 2 (fun gk mv kv wr => ∃ k : Nat, mv = .int .i64 0 ∧ kv = .int .i64 (k : Nat) ∧ gk = 2 - k ∧ k ≤ 2 ∧ Below W2.heap.size W2 wr)
  case atStart => exact ⟨0, rfl, rfl, rfl, by omega, Below.refl _ _⟩
  case round =>
  obtain ⟨k, rfl, rfl, hg, hk, hbr⟩ := hrel
  have HG := Lib.hid hg
  have HK := Lib.hid hk
  have HBR := Lib.hid hbr
  clear hg hk hbr
  by_cases hk2 : k < 2
  case neg =>
    obtain rfl : k = 2 := by have := HK.out; omega
    have hbt : Below b w wr := (HBZ.out ▸ HB.out).trans ((HBW.out.trans (HBR.out.mono HBW.out.size)).mono (by have := HB.out.size; rw [HBZ.out] at this; exact this))
    have hbl : b < W.heap.size := HN.out.lt
    have HR : Hid (CmB wr b l) := Lib.hid ((HN.out.below HBW.out).below HBR.out)
    have HBT := Lib.hid hbt
    have HCI : Hid ((Tryz.prog.info? 60).map (·.size) = some l.toArray.size) := Lib.hid (by rw [cmd_info, List.size_toArray, HP.out.cl.len])
    have HSA := Lib.hid (said_p (w := wr) HP.out)
    obtain ⟨Z, hZ⟩ : ∃ Z : List Value, List.replicate 256 (Value.int .u8 0) = Z := ⟨_, rfl⟩
    have HZI : Hid ((Tryz.prog.info? 58).map (·.size) = some Z.length) := Lib.hid (by rw [← hZ, List.length_replicate]; kernel_rfl)
    have HQ : Hid (∀ w, (Op.equalIn 10000 58 (.agg Z.toArray) (.agg Tryz.zeroCells58)).run Tryz.prog w = .ok true w) := Lib.hid (by rw [← hZ]; exact zero_eqIn)
    have HTB : Hid (l.drop 16 = Z) := Lib.hid (by rw [HP.out.tb, hZ])
    have c0 : wr.cell? ⟨b, 0, none⟩ = some (.int .i8 0) := (HR.out.cell 0).trans HP.out.a0
    have c6 : wr.cell? ⟨b, 6, none⟩ = some (.bool false) := (HR.out.cell 6).trans HP.out.nt
    have c7 : wr.cell? ⟨b, 7, none⟩ = some (.int .u8 112) := (HR.out.cell 7).trans HP.out.nm
    have c8 : wr.cell? ⟨b, 8, none⟩ = some (.int .i64 0) := (HR.out.cell 8).trans HP.out.pl
    have hbl := HR.out.lt
    clear hbt hZ HBW HBR HAR HK hk2 HN HB
    go_wp2_with (refine wpList_load_row_g rfl 60 _ rfl b rfl 60 l.toArray (0, 0) _ HR.out.heap Tryz.underlying60 rfl HCI.out ?_)
    refine HSA.out.mono ?_; rintro e w6 ⟨rfl, hb6⟩
    have HR6 := Lib.hid (HR.out.below hb6)
    have HB6 := Lib.hid (HBT.out.trans (hb6.mono (by have := HR.out.lt; omega)))
    have HZ6 : Hid (w6.rangeAt b 16 Z) := Lib.hid (by have := HR6.out.tab2; rw [HTB.out] at this; exact this)
    have d7 : w6.cell? ⟨b, 7, none⟩ = some (.int .u8 112) := (HR6.out.cell 7).trans HP.out.nm
    have d10 : w6.cell? ⟨b, 10, none⟩ = some (.slice none 0 0) := (HR6.out.cell 10).trans HP.out.re
    have d11 : w6.cell? ⟨b, 11, none⟩ = some (.slice none 0 0) := (HR6.out.cell 11).trans HP.out.fi
    have d12 : w6.cell? ⟨b, 12, none⟩ = some (.int .i64 0) := (HR6.out.cell 12).trans HP.out.co
    have d13 : w6.cell? ⟨b, 13, none⟩ = some (.bool false) := (HR6.out.cell 13).trans HP.out.al
    have d14 : w6.cell? ⟨b, 14, none⟩ = some (.bool false) := (HR6.out.cell 14).trans HP.out.pr
    have d15 : w6.cell? ⟨b, 15, none⟩ = some (.bool false) := (HR6.out.cell 15).trans HP.out.wr
    have hbl := HR6.out.lt
    clear hb6 c0 c6 c7 c8 HSA HR HTB
    go_wp2_with (first | refine wpList_load_mid_g rfl 58 _ rfl b 16 rfl Z _ HZ6.out Tryz.underlying58 rfl HZI.out ?_ | refine wpList_neq_g rfl _ _ rfl rfl rfl HQ.out ?_)
    go_ret
    exact ⟨rfl, HBZ.out.symm ▸ HB6.out⟩
  have hk2' : (k : Int) < 2 := by omega
  have hlt : sb < wr.heap.size := Nat.lt_of_lt_of_le HAR.out.lt HBR.out.size
  obtain ⟨e0, e1, e2⟩ := HAR.out.k k hk2
  have a0 := (HBR.out.cell (p := ⟨sb, k * 3, none⟩) HAR.out.lt).trans e0
  have a1 := (HBR.out.cell (p := ⟨sb, k * 3 + 1, none⟩) HAR.out.lt).trans e1
  have a2 := (HBR.out.cell (p := ⟨sb, k * 3 + 2, none⟩) HAR.out.lt).trans e2
  clear e0 e1 e2
  have HRT : ∀ W : World, Hid _ := fun W => Lib.hid (right_0 (w := W))
  go_wp2_with fail
  refine (HRT _).out.mono ?_; rintro e w5 ⟨rfl, hb5⟩
  have d0 := (hb5.cell (p := ⟨wr.heap.size, 0, none⟩) (new_lt wr _)).trans (new_cell wr #[.int .i8 0, .int .i64 0, .slice none 0 0] 55 0)
  have hl5 : wr.heap.size < w5.heap.size := Nat.lt_of_lt_of_le (new_lt wr (.cells #[.int .i8 0, .int .i64 0, .slice none 0 0] 55)) hb5.size
  have HB5 := Lib.hid ((HBR.out.alloc HBR.out.size (.cells #[.int .i8 0, .int .i64 0, .slice none 0 0] 55)).trans (hb5.mono (by have := HBR.out.size; have := new_lt wr (.cells #[.int .i8 0, .int .i64 0, .slice none 0 0] 55); omega)))
  clear hb5 HRT a0 a1 a2 hlt
  have d0 : w5.cell? ⟨wr.heap.size, 0, none⟩ = some (.int .i8 0) := d0
  obtain ⟨q, hq⟩ : ∃ q, wr.heap.size = q := ⟨_, rfl⟩
  rw [hq] at d0 hl5 ⊢
  clear hq
  go_wp2_with fail
  go_roundg (2 - (k + 1))
  case measure => have := HG.out; omega
  case rel => exact ⟨k + 1, rfl, by go_num, rfl, by omega, HB5.out⟩
end
end Go.Proofs.YtdinjlglngpecaaGreatDoor
