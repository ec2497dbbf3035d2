/- Contract of package step: table. No condition. -/
import Derived.Test.YtdinjlglngpecaaGreatDoorSt
import Derived.Deep.LoopGhost
import Derived.Lib.SlBytesConst
import Derived.Laws.EntriesVeiled
namespace Go.Proofs.YtdinjlglngpecaaGreatDoor
open Go.RowKit

/-- The core while table fills it. -/
structure TbP (w : World) (cb : Nat) (L : List (Nat × Value)) : Prop where
  bk : BkV w cb L
  ex : ∀ o, 10 ≤ o → o < 266 → ∃ v, w.cell? ⟨cb, o, none⟩ = some v
def offs : List Nat := [0, 1, 4, 5, 8, 9, 122, 266, 267, 268, 269, 270, 271, 272, 273]
section
variable {w w' : World} {cb : Nat} {L : List (Nat × Value)}
theorem TbP.set (h : TbP w cb L) {o : Nat} (hn : ∀ p ∈ L, p.1 ≠ o) (v : Value) : TbP (w.setCell ⟨cb, o, none⟩ v) cb L := by
  refine ⟨⟨by simpa [World.setCell] using h.bk.lt, fun p hp => (World.cell?_setCell_other _ _ _ _ (by intro q; cases q; exact hn p hp rfl)).trans (h.bk.fx p hp), fun x => (World.frozen?_setCell _ _ _ _).trans (h.bk.fz x)⟩, fun x h1 h2 => ?_⟩
  obtain ⟨u, hu⟩ := h.ex x h1 h2
  by_cases e : x = o
  · subst e; exact ⟨v, World.cell?_setCell_same _ _ _ hu⟩
  · exact ⟨u, (World.cell?_setCell_other _ _ _ _ (by intro q; cases q; exact e rfl)).trans hu⟩
theorem TbP.same (h : TbP w cb L) (hb : w'.heap[cb]? = w.heap[cb]?) (hs : w.heap.size ≤ w'.heap.size) : TbP w' cb L :=
  ⟨h.bk.same hb hs, fun o h1 h2 => by obtain ⟨v, hv⟩ := h.ex o h1 h2; exact ⟨v, (World.cell?_of_block (a := ⟨cb, o, none⟩) hb).trans hv⟩⟩
theorem TbP.put (h : TbP w cb L) (hn : (L.map (·.1)).Nodup) (j : Nat) {o : Nat} {u : Value} (e : L[j]? = some (o, u)) (v : Value) : TbP (w.setCell ⟨cb, o, none⟩ v) cb (L.set j (o, v)) := by
  refine ⟨h.bk.set hn j e v, fun x h1 h2 => ?_⟩
  obtain ⟨u, hu⟩ := h.ex x h1 h2
  by_cases q : x = o
  · subst q; exact ⟨v, World.cell?_setCell_same _ _ _ hu⟩
  · exact ⟨u, (World.cell?_setCell_other _ _ _ _ (by intro z; cases z; exact q rfl)).trans hu⟩
variable {k : CK} {s : CS}
def core0 (k : CK) (s : CS) : List (Nat × Value) := (coreL k s).set 6 (122, .nilFunc)
theorem core0_fst (k : CK) (s : CS) : (core0 k s).map (·.1) = offs := rfl
theorem coreL_fst (k : CK) (s : CS) : (coreL k s).map (·.1) = offs := rfl
theorem offs_ne {L : List (Nat × Value)} (h : L.map (·.1) = offs) {o : Nat} (ho : o ∉ offs) : ∀ p ∈ L, p.1 ≠ o := fun _ hp e => ho (h ▸ e ▸ List.mem_map_of_mem hp)
def lit5 : List Nat := [103, 71, 104, 72, 120]
theorem lit5_ok : ∀ j, j < 5 → lit5.getD j 0 < 256 ∧ lit5.getD j 0 + 10 ∉ offs := by decide
theorem lit5_cell (w : World) : ∀ j, j < 5 → (w.alloc (.cells #[.int .u8 103, .int .u8 71, .int .u8 104, .int .u8 72, .int .u8 120] 5 (5, 6))).cell? ⟨w.heap.size, j, none⟩ = some (.int .u8 (lit5.getD j 0 : Nat)) := fun j hj => by
  rw [cell_of_row _ _ j _ _ (5, 6) (heap_alloc_new w _)]
  rcases (show j = 0 ∨ j = 1 ∨ j = 2 ∨ j = 3 ∨ j = 4 by omega) with rfl | rfl | rfl | rfl | rfl <;> rfl
set_option maxRecDepth 100000 in
set_option maxHeartbeats 3200000 in
theorem table_call (h : TbP w k.cb (core0 k s)) :
    Calls Tryz.prog 23 #[.pointer (some ⟨k.cb, 0, none⟩)] w fun e w' => e = .returned (.tuple #[]) ∧ BkV w' k.cb (coreL k s) ∧ Kept w w' (fun x => x = k.cb) := by
  have hmf : ∀ (fn : Fn) (first cap : Array Value) (w : World), (Instr.makeFunc fn first cap).run Tryz.prog w = .ok (.func fn first cap) w := fun _ _ _ _ => rfl
  have hcv := Lib.run_convert_bytes_const (P := Tryz.prog) w 33 5 #[.int .u8 103, .int .u8 71, .int .u8 104, .int .u8 72, .int .u8 120] 5 5 Tryz.underlying33 Tryz.underlying5
  rw [show (#[Value.int .u8 103, .int .u8 71, .int .u8 104, .int .u8 72, .int .u8 120] : Array Value).size = 5 from rfl] at hcv
  have hL := coreL_fst k s
  obtain ⟨cb, hcb⟩ : ∃ cb, k.cb = cb := ⟨_, rfl⟩
  have hfin : ∀ W, TbP W k.cb (core0 k s) → TbP (W.setCell ⟨k.cb, 122, none⟩ (.func (.func 53) #[.pointer (some ⟨k.cb, 0, none⟩)] #[])) k.cb (coreL k s) := fun W hW => hW.put (by rw [core0_fst]; decide) 6 rfl _
  have hL0 := core0_fst k s
  rw [hcb] at h hfin ⊢
  generalize core0 k s = L0 at h hL0 hfin
  generalize coreL k s = L at hL hfin ⊢
  have HFIN := Lib.hid hfin
  have HL := Lib.hid hL
  have HL0 := Lib.hid hL0
  have hlit := lit5_cell w
  have HT0 := Lib.hid (h.same (w' := w.alloc (.cells #[.int .u8 103, .int .u8 71, .int .u8 104, .int .u8 72, .int .u8 120] 5 (5, 6))) (heap_alloc_old _ _ h.bk.lt) (by simp))
  have HK0 : Hid (Kept w (w.alloc (.cells #[.int .u8 103, .int .u8 71, .int .u8 104, .int .u8 72, .int .u8 120] 5 (5, 6))) (fun x => x = cb)) := Lib.hid (Kept.alloc _ _ _)
  have HDL : Hid (w.heap.size < (w.alloc (.cells #[.int .u8 103, .int .u8 71, .int .u8 104, .int .u8 72, .int .u8 120] 5 (5, 6))).heap.size) := Lib.hid (new_lt _ _)
  have HCT := Lib.hid h.bk.lt
  have HLIT := Lib.hid hlit
  clear h hfin hL hL0 hlit hcb
  go_enter Tryz.func23, Tryz.ntmps23
  go_wp2_with fail
  clear hcv
  obtain ⟨W, hW⟩ : ∃ W, w.alloc (.cells #[.int .u8 103, .int .u8 71, .int .u8 104, .int .u8 72, .int .u8 120] 5 (5, 6)) = W := ⟨_, rfl⟩
  rw [hW] at HT0 HK0 HLIT HDL ⊢
  clear hW
  obtain ⟨d, hd⟩ : ∃ d, w.heap.size = d := ⟨_, rfl⟩
  rw [hd] at HLIT HDL HCT ⊢
  clear hd
  go_loopg [7] 6 (fun gk kv wr => ∃ j : Nat, kv = .int .i64 (j : Nat) ∧ gk + j = 6 ∧ j ≤ 5 ∧ TbP wr cb L0 ∧ Kept w wr (fun x => x = cb) ∧ (∀ j, j < 5 → wr.cell? ⟨d, j, none⟩ = some (.int .u8 (lit5.getD j 0 : Nat))) ∧ d < wr.heap.size)
  case atStart => exact ⟨0, rfl, rfl, by decide, HT0.out, HK0.out, HLIT.out, HDL.out⟩
  case round =>
  obtain ⟨j, rfl, hgk, hj, ht, hk, hlit, hdl⟩ := hrel
  have HGK := Lib.hid hgk
  have HT := Lib.hid ht
  have HK := Lib.hid hk
  have HLI := Lib.hid hlit
  have HDR := Lib.hid hdl
  by_cases hj5 : j < 5
  · have hj5' : (j : Int) < 5 := by omega
    obtain ⟨hb, hno⟩ := lit5_ok j hj5
    have hlj := hlit j hj5
    obtain ⟨b, hbe⟩ : ∃ b, lit5.getD j 0 = b := ⟨_, rfl⟩
    rw [hbe] at hb hno hlj
    obtain ⟨v, hv⟩ := ht.ex (10 + b) (by omega) (by omega)
    have hz := ht.bk.fz (10 + b)
    have hc := ht.bk.lt
    have hb' : (b : Int) < 256 := by omega
    have HT2 := Lib.hid (ht.set (o := 10 + b) (offs_ne HL0.out (by rw [Nat.add_comm]; exact hno)) (.func (.func 43) #[.pointer (some ⟨cb, 0, none⟩)] #[]))
    have HK2 := Lib.hid (hk.trans (Kept.setCell wr ⟨cb, 10 + b, none⟩ (.func (.func 43) #[.pointer (some ⟨cb, 0, none⟩)] #[])) fun _ _ e => e)
    have HL2 : Hid (∀ j, j < 5 → (wr.setCell ⟨cb, 10 + b, none⟩ (.func (.func 43) #[.pointer (some ⟨cb, 0, none⟩)] #[])).cell? ⟨d, j, none⟩ = some (.int .u8 (lit5.getD j 0 : Nat))) := Lib.hid fun j hj => (World.cell?_of_block (a := ⟨d, j, none⟩) (Below.heap_setCell _ _ _ _ (by show d ≠ cb; have := HCT.out; omega))).trans (hlit j hj)
    have HD2 : Hid (d < (wr.setCell ⟨cb, 10 + b, none⟩ (.func (.func 43) #[.pointer (some ⟨cb, 0, none⟩)] #[])).heap.size) := Lib.hid (by simpa [World.setCell] using hdl)
    clear ht hk hlit hgk hj hno hbe
    go_wp2_with fail
    go_roundg (gk - 1)
    case measure => have := HGK.out; omega
    case rel => exact ⟨j + 1, by go_num, by have := HGK.out; omega, by omega, HT2.out, HK2.out, HL2.out, HD2.out⟩
  clear ht hk hlit hgk HLI HDR hdl HDL HLIT HT0 HK0
  have hj5' : ¬ (j : Int) < 5 := by omega
  go_upto_region 5 with fail
  obtain ⟨v, hv⟩ := HT.out.ex 71 (by decide) (by decide)
  have hz := HT.out.bk.fz 71
  have hc := HT.out.bk.lt
  have HT2 := Lib.hid (HT.out.set (o := 71) (offs_ne HL0.out (by decide)) (.func (.func 44) #[.pointer (some ⟨cb, 0, none⟩)] #[]))
  have HK2 := Lib.hid (HK.out.trans (Kept.setCell wr ⟨cb, 71, none⟩ (.func (.func 44) #[.pointer (some ⟨cb, 0, none⟩)] #[])) fun _ _ e => e)
  clear HT HK
  go_upto_region 6 with fail
  obtain ⟨W1, hW⟩ : ∃ V, wr.setCell ⟨cb, 71, none⟩ (.func (.func 44) #[.pointer (some ⟨cb, 0, none⟩)] #[]) = V := ⟨_, rfl⟩
  rw [hW] at HT2 HK2 ⊢
  clear hW hv hz hc
  have HT := HT2
  have HK := HK2
  clear HT2 HK2
  obtain ⟨v, hv⟩ := HT.out.ex 107 (by decide) (by decide)
  have hz := HT.out.bk.fz 107
  have hc := HT.out.bk.lt
  have HT2 := Lib.hid (HT.out.set (o := 107) (offs_ne HL0.out (by decide)) (.func (.func 45) #[.pointer (some ⟨cb, 0, none⟩)] #[]))
  have HK2 := Lib.hid (HK.out.trans (Kept.setCell W1 ⟨cb, 107, none⟩ (.func (.func 45) #[.pointer (some ⟨cb, 0, none⟩)] #[])) fun _ _ e => e)
  clear HT HK
  go_upto_region 7 with fail
  obtain ⟨W2, hW⟩ : ∃ V, W1.setCell ⟨cb, 107, none⟩ (.func (.func 45) #[.pointer (some ⟨cb, 0, none⟩)] #[]) = V := ⟨_, rfl⟩
  rw [hW] at HT2 HK2 ⊢
  clear hW hv hz hc
  have HT := HT2
  have HK := HK2
  clear HT2 HK2
  obtain ⟨v, hv⟩ := HT.out.ex 108 (by decide) (by decide)
  have hz := HT.out.bk.fz 108
  have hc := HT.out.bk.lt
  have HT2 := Lib.hid (HT.out.set (o := 108) (offs_ne HL0.out (by decide)) (.func (.func 46) #[.pointer (some ⟨cb, 0, none⟩)] #[]))
  have HK2 := Lib.hid (HK.out.trans (Kept.setCell W2 ⟨cb, 108, none⟩ (.func (.func 46) #[.pointer (some ⟨cb, 0, none⟩)] #[])) fun _ _ e => e)
  clear HT HK
  go_upto_region 8 with fail
  obtain ⟨W3, hW⟩ : ∃ V, W2.setCell ⟨cb, 108, none⟩ (.func (.func 46) #[.pointer (some ⟨cb, 0, none⟩)] #[]) = V := ⟨_, rfl⟩
  rw [hW] at HT2 HK2 ⊢
  clear hW hv hz hc
  have HT := HT2
  have HK := HK2
  clear HT2 HK2
  obtain ⟨v, hv⟩ := HT.out.ex 109 (by decide) (by decide)
  have hz := HT.out.bk.fz 109
  have hc := HT.out.bk.lt
  have HT2 := Lib.hid (HT.out.set (o := 109) (offs_ne HL0.out (by decide)) (.func (.func 47) #[.pointer (some ⟨cb, 0, none⟩)] #[]))
  have HK2 := Lib.hid (HK.out.trans (Kept.setCell W3 ⟨cb, 109, none⟩ (.func (.func 47) #[.pointer (some ⟨cb, 0, none⟩)] #[])) fun _ _ e => e)
  clear HT HK
  go_upto_region 9 with fail
  obtain ⟨W4, hW⟩ : ∃ V, W3.setCell ⟨cb, 109, none⟩ (.func (.func 47) #[.pointer (some ⟨cb, 0, none⟩)] #[]) = V := ⟨_, rfl⟩
  rw [hW] at HT2 HK2 ⊢
  clear hW hv hz hc
  have HT := HT2
  have HK := HK2
  clear HT2 HK2
  obtain ⟨v, hv⟩ := HT.out.ex 110 (by decide) (by decide)
  have hz := HT.out.bk.fz 110
  have hc := HT.out.bk.lt
  have HT2 := Lib.hid (HT.out.set (o := 110) (offs_ne HL0.out (by decide)) (.func (.func 48) #[.pointer (some ⟨cb, 0, none⟩)] #[]))
  have HK2 := Lib.hid (HK.out.trans (Kept.setCell W4 ⟨cb, 110, none⟩ (.func (.func 48) #[.pointer (some ⟨cb, 0, none⟩)] #[])) fun _ _ e => e)
  clear HT HK
  go_upto_region 10 with fail
  obtain ⟨W5, hW⟩ : ∃ V, W4.setCell ⟨cb, 110, none⟩ (.func (.func 48) #[.pointer (some ⟨cb, 0, none⟩)] #[]) = V := ⟨_, rfl⟩
  rw [hW] at HT2 HK2 ⊢
  clear hW hv hz hc
  have HT := HT2
  have HK := HK2
  clear HT2 HK2
  obtain ⟨v, hv⟩ := HT.out.ex 78 (by decide) (by decide)
  have hz := HT.out.bk.fz 78
  have hc := HT.out.bk.lt
  have HT2 := Lib.hid (HT.out.set (o := 78) (offs_ne HL0.out (by decide)) (.func (.func 49) #[.pointer (some ⟨cb, 0, none⟩)] #[]))
  have HK2 := Lib.hid (HK.out.trans (Kept.setCell W5 ⟨cb, 78, none⟩ (.func (.func 49) #[.pointer (some ⟨cb, 0, none⟩)] #[])) fun _ _ e => e)
  clear HT HK
  go_upto_region 11 with fail
  obtain ⟨W6, hW⟩ : ∃ V, W5.setCell ⟨cb, 78, none⟩ (.func (.func 49) #[.pointer (some ⟨cb, 0, none⟩)] #[]) = V := ⟨_, rfl⟩
  rw [hW] at HT2 HK2 ⊢
  clear hW hv hz hc
  have HT := HT2
  have HK := HK2
  clear HT2 HK2
  obtain ⟨v, hv⟩ := HT.out.ex 115 (by decide) (by decide)
  have hz := HT.out.bk.fz 115
  have hc := HT.out.bk.lt
  have HT2 := Lib.hid (HT.out.set (o := 115) (offs_ne HL0.out (by decide)) (.func (.func 50) #[.pointer (some ⟨cb, 0, none⟩)] #[]))
  have HK2 := Lib.hid (HK.out.trans (Kept.setCell W6 ⟨cb, 115, none⟩ (.func (.func 50) #[.pointer (some ⟨cb, 0, none⟩)] #[])) fun _ _ e => e)
  clear HT HK
  go_upto_region 12 with fail
  obtain ⟨W7, hW⟩ : ∃ V, W6.setCell ⟨cb, 115, none⟩ (.func (.func 50) #[.pointer (some ⟨cb, 0, none⟩)] #[]) = V := ⟨_, rfl⟩
  rw [hW] at HT2 HK2 ⊢
  clear hW hv hz hc
  have HT := HT2
  have HK := HK2
  clear HT2 HK2
  obtain ⟨v, hv⟩ := HT.out.ex 118 (by decide) (by decide)
  have hz := HT.out.bk.fz 118
  have hc := HT.out.bk.lt
  have HT2 := Lib.hid (HT.out.set (o := 118) (offs_ne HL0.out (by decide)) (.func (.func 51) #[.pointer (some ⟨cb, 0, none⟩)] #[]))
  have HK2 := Lib.hid (HK.out.trans (Kept.setCell W7 ⟨cb, 118, none⟩ (.func (.func 51) #[.pointer (some ⟨cb, 0, none⟩)] #[])) fun _ _ e => e)
  clear HT HK
  go_upto_region 13 with fail
  obtain ⟨W8, hW⟩ : ∃ V, W7.setCell ⟨cb, 118, none⟩ (.func (.func 51) #[.pointer (some ⟨cb, 0, none⟩)] #[]) = V := ⟨_, rfl⟩
  rw [hW] at HT2 HK2 ⊢
  clear hW hv hz hc
  have HT := HT2
  have HK := HK2
  clear HT2 HK2
  obtain ⟨v, hv⟩ := HT.out.ex 120 (by decide) (by decide)
  have hz := HT.out.bk.fz 120
  have hc := HT.out.bk.lt
  have HT2 := Lib.hid (HT.out.set (o := 120) (offs_ne HL0.out (by decide)) (.func (.func 52) #[.pointer (some ⟨cb, 0, none⟩)] #[]))
  have HK2 := Lib.hid (HK.out.trans (Kept.setCell W8 ⟨cb, 120, none⟩ (.func (.func 52) #[.pointer (some ⟨cb, 0, none⟩)] #[])) fun _ _ e => e)
  clear HT HK
  go_upto_region 14 with fail
  obtain ⟨W9, hW⟩ : ∃ V, W8.setCell ⟨cb, 120, none⟩ (.func (.func 52) #[.pointer (some ⟨cb, 0, none⟩)] #[]) = V := ⟨_, rfl⟩
  rw [hW] at HT2 HK2 ⊢
  clear hW hv hz hc
  have HT := HT2
  have HK := HK2
  clear HT2 HK2
  obtain ⟨v, hv⟩ := HT.out.ex 88 (by decide) (by decide)
  have hz := HT.out.bk.fz 88
  have hc := HT.out.bk.lt
  have HT2 := Lib.hid (HT.out.set (o := 88) (offs_ne HL0.out (by decide)) (.func (.func 52) #[.pointer (some ⟨cb, 0, none⟩)] #[]))
  have HK2 := Lib.hid (HK.out.trans (Kept.setCell W9 ⟨cb, 88, none⟩ (.func (.func 52) #[.pointer (some ⟨cb, 0, none⟩)] #[])) fun _ _ e => e)
  clear HT HK
  go_upto_region 15 with fail
  obtain ⟨W10, hW⟩ : ∃ V, W9.setCell ⟨cb, 88, none⟩ (.func (.func 52) #[.pointer (some ⟨cb, 0, none⟩)] #[]) = V := ⟨_, rfl⟩
  rw [hW] at HT2 HK2 ⊢
  clear hW hv hz hc
  have HT := HT2
  have HK := HK2
  clear HT2 HK2
  obtain ⟨v, hv⟩ := HT.out.ex 122 (by decide) (by decide)
  have hz := HT.out.bk.fz 122
  have hc := HT.out.bk.lt
  have HT2 := Lib.hid (HFIN.out _ HT.out)
  have HK2 := Lib.hid (HK.out.trans (Kept.setCell W10 ⟨cb, 122, none⟩ (.func (.func 53) #[.pointer (some ⟨cb, 0, none⟩)] #[])) fun _ _ e => e)
  clear HT HK
  go_upto_region 16 with fail
  obtain ⟨W11, hW⟩ : ∃ V, W10.setCell ⟨cb, 122, none⟩ (.func (.func 53) #[.pointer (some ⟨cb, 0, none⟩)] #[]) = V := ⟨_, rfl⟩
  rw [hW] at HT2 HK2 ⊢
  clear hW hv hz hc
  have HT := HT2
  have HK := HK2
  clear HT2 HK2
  obtain ⟨v, hv⟩ := HT.out.ex 90 (by decide) (by decide)
  have hz := HT.out.bk.fz 90
  have hc := HT.out.bk.lt
  have HT2 := Lib.hid (HT.out.set (o := 90) (offs_ne HL.out (by decide)) (.func (.func 54) #[.pointer (some ⟨cb, 0, none⟩)] #[]))
  have HK2 := Lib.hid (HK.out.trans (Kept.setCell W11 ⟨cb, 90, none⟩ (.func (.func 54) #[.pointer (some ⟨cb, 0, none⟩)] #[])) fun _ _ e => e)
  clear HT HK
  go_upto_region 17 with fail
  obtain ⟨W12, hW⟩ : ∃ V, W11.setCell ⟨cb, 90, none⟩ (.func (.func 54) #[.pointer (some ⟨cb, 0, none⟩)] #[]) = V := ⟨_, rfl⟩
  rw [hW] at HT2 HK2 ⊢
  clear hW hv hz hc
  have HT := HT2
  have HK := HK2
  clear HT2 HK2
  obtain ⟨v, hv⟩ := HT.out.ex 123 (by decide) (by decide)
  have hz := HT.out.bk.fz 123
  have hc := HT.out.bk.lt
  have HT2 := Lib.hid (HT.out.set (o := 123) (offs_ne HL.out (by decide)) (.func (.func 55) #[.pointer (some ⟨cb, 0, none⟩)] #[]))
  have HK2 := Lib.hid (HK.out.trans (Kept.setCell W12 ⟨cb, 123, none⟩ (.func (.func 55) #[.pointer (some ⟨cb, 0, none⟩)] #[])) fun _ _ e => e)
  clear HT HK
  go_upto_region 18 with fail
  obtain ⟨W13, hW⟩ : ∃ V, W12.setCell ⟨cb, 123, none⟩ (.func (.func 55) #[.pointer (some ⟨cb, 0, none⟩)] #[]) = V := ⟨_, rfl⟩
  rw [hW] at HT2 HK2 ⊢
  clear hW hv hz hc
  have HT := HT2
  have HK := HK2
  clear HT2 HK2
  obtain ⟨v, hv⟩ := HT.out.ex 124 (by decide) (by decide)
  have hz := HT.out.bk.fz 124
  have hc := HT.out.bk.lt
  have HT2 := Lib.hid (HT.out.set (o := 124) (offs_ne HL.out (by decide)) (.func (.func 56) #[.pointer (some ⟨cb, 0, none⟩)] #[]))
  have HK2 := Lib.hid (HK.out.trans (Kept.setCell W13 ⟨cb, 124, none⟩ (.func (.func 56) #[.pointer (some ⟨cb, 0, none⟩)] #[])) fun _ _ e => e)
  clear HT HK
  go_upto_region 19 with fail
  obtain ⟨W14, hW⟩ : ∃ V, W13.setCell ⟨cb, 124, none⟩ (.func (.func 56) #[.pointer (some ⟨cb, 0, none⟩)] #[]) = V := ⟨_, rfl⟩
  rw [hW] at HT2 HK2 ⊢
  clear hW hv hz hc
  have HT := HT2
  have HK := HK2
  clear HT2 HK2
  obtain ⟨v, hv⟩ := HT.out.ex 125 (by decide) (by decide)
  have hz := HT.out.bk.fz 125
  have hc := HT.out.bk.lt
  have HT2 := Lib.hid (HT.out.set (o := 125) (offs_ne HL.out (by decide)) (.func (.func 57) #[.pointer (some ⟨cb, 0, none⟩)] #[]))
  have HK2 := Lib.hid (HK.out.trans (Kept.setCell W14 ⟨cb, 125, none⟩ (.func (.func 57) #[.pointer (some ⟨cb, 0, none⟩)] #[])) fun _ _ e => e)
  clear HT HK
  go_upto_region 20 with fail
  obtain ⟨W15, hW⟩ : ∃ V, W14.setCell ⟨cb, 125, none⟩ (.func (.func 57) #[.pointer (some ⟨cb, 0, none⟩)] #[]) = V := ⟨_, rfl⟩
  rw [hW] at HT2 HK2 ⊢
  clear hW hv hz hc
  have HT := HT2
  have HK := HK2
  clear HT2 HK2
  obtain ⟨v, hv⟩ := HT.out.ex 126 (by decide) (by decide)
  have hz := HT.out.bk.fz 126
  have hc := HT.out.bk.lt
  have HT2 := Lib.hid (HT.out.set (o := 126) (offs_ne HL.out (by decide)) (.func (.func 58) #[.pointer (some ⟨cb, 0, none⟩)] #[]))
  have HK2 := Lib.hid (HK.out.trans (Kept.setCell W15 ⟨cb, 126, none⟩ (.func (.func 58) #[.pointer (some ⟨cb, 0, none⟩)] #[])) fun _ _ e => e)
  clear HT HK
  go_upto_region 21 with fail
  obtain ⟨W16, hW⟩ : ∃ V, W15.setCell ⟨cb, 126, none⟩ (.func (.func 58) #[.pointer (some ⟨cb, 0, none⟩)] #[]) = V := ⟨_, rfl⟩
  rw [hW] at HT2 HK2 ⊢
  clear hW hv hz hc
  have HT := HT2
  have HK := HK2
  clear HT2 HK2
  obtain ⟨v, hv⟩ := HT.out.ex 129 (by decide) (by decide)
  have hz := HT.out.bk.fz 129
  have hc := HT.out.bk.lt
  have HT2 := Lib.hid (HT.out.set (o := 129) (offs_ne HL.out (by decide)) (.func (.func 59) #[.pointer (some ⟨cb, 0, none⟩)] #[]))
  have HK2 := Lib.hid (HK.out.trans (Kept.setCell W16 ⟨cb, 129, none⟩ (.func (.func 59) #[.pointer (some ⟨cb, 0, none⟩)] #[])) fun _ _ e => e)
  clear HT HK
  go_upto_region 22 with fail
  obtain ⟨W17, hW⟩ : ∃ V, W16.setCell ⟨cb, 129, none⟩ (.func (.func 59) #[.pointer (some ⟨cb, 0, none⟩)] #[]) = V := ⟨_, rfl⟩
  rw [hW] at HT2 HK2 ⊢
  clear hW hv hz hc
  have HT := HT2
  have HK := HK2
  clear HT2 HK2
  obtain ⟨v, hv⟩ := HT.out.ex 131 (by decide) (by decide)
  have hz := HT.out.bk.fz 131
  have hc := HT.out.bk.lt
  have HT2 := Lib.hid (HT.out.set (o := 131) (offs_ne HL.out (by decide)) (.func (.func 60) #[.pointer (some ⟨cb, 0, none⟩)] #[]))
  have HK2 := Lib.hid (HK.out.trans (Kept.setCell W17 ⟨cb, 131, none⟩ (.func (.func 60) #[.pointer (some ⟨cb, 0, none⟩)] #[])) fun _ _ e => e)
  clear HT HK
  go_wp2_with fail
  go_end0
  exact ⟨rfl, HT2.out.bk, HK2.out⟩
end
end Go.Proofs.YtdinjlglngpecaaGreatDoor
