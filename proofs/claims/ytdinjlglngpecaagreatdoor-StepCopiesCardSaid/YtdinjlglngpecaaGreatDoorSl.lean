/- Contracts of package step: read, end. No condition. -/
import Derived.Test.YtdinjlglngpecaaGreatDoorSk
namespace Go.Proofs.YtdinjlglngpecaaGreatDoor
open Go.RowKit

def putV (k : CK) : Value := .func (.func 25) #[.pointer (some ⟨k.sb, 0, none⟩)] #[]
section
variable {w w' w2 : World} {k : CK} {s s' : CS} {T T' X : List Nat} {pk pk' : Option Nat} {base : Nat} {mu : Bool} {oa : Option Addr} {m ca n n' u u' z z' : Nat} {O O' : Nat → Option Nat} {A A' : List Nat}
set_option maxRecDepth 100000 in
set_option maxHeartbeats 1600000 in
theorem sread_none (h : StS w k s T pk base mu oa m ca n u z O A) (hz : z ≤ 549755813888) (hm : m ≤ n) (p : Value) :
    Calls Tryz.prog 24 #[.pointer (some ⟨k.cb, 0, none⟩), p] w fun e w' => e = .returned (.int .i64 0) ∧ ∃ O', StS w' k { s with nx := -2 } T pk base mu oa m ca n u (z + 3) O' A ∧ Grw w w' (sfoot k O pk) (sfoot k O' pk) := by
  have H := Lib.hid h
  have HN := Lib.hid (next_none h.wl h.blt h.bw (by omega) hm)
  have c5 := h.ma.co.get 3 rfl
  have hc := h.ma.co.lt
  clear h hz hm
  have hmn := mNext
  go_enter Tryz.func24, Tryz.ntmps24
  go_wp2_with fail
  refine HN.out.mono ?_; rintro e w1 ⟨rfl, O1, hw, ha⟩
  obtain ⟨hs, hg⟩ := H.out.world hw ha
  have hs2 := hs.ma.set 9 rfl (.int .i64 (-2)) (s' := { s with nx := -2 }) rfl
  have hs3 := hs.mach hs2.1 hs2.2 (.inl rfl)
  have HS := Lib.hid hs3.1
  have HG := Lib.hid (hg.trans hs3.2)
  have c9 := hs.ma.co.get 9 rfl
  have hc := hs.ma.co.lt
  have z9 := hs.ma.co.fz 268
  clear hw ha hs hg hs2 hs3 hmn
  go_wp2_with fail
  go_ret
  exact ⟨rfl, O1, HS.out, HG.out⟩
set_option maxRecDepth 100000 in
set_option maxHeartbeats 3200000 in
theorem sread_some (h : StS w k s T pk base mu oa m ca n u z O A) (hz : z ≤ 549755813888) (hmu : mu = false → z < 450) (hm : n < m) (hmz : m ≤ 4611686018427387903) {B : Nat} (hB : B ≤ k.wb) {LL : List Lin} (hL : LnB w B oa LL) {l : Lin} (hl : LL[n]? = some l) (hll : l.T.length ≤ 1048576) :
    Calls Tryz.prog 24 #[.pointer (some ⟨k.cb, 0, none⟩), putV k] w fun e w' => e = .returned (.int .i64 0) ∧ ∃ O' pk', StS w' k { s with fl := false } l.T pk' base mu oa m ca (n + 1) u (z + 5) O' A ∧ Grw w w' (sfoot k O pk) (sfoot k O' pk') := by
  have H := Lib.hid h
  have HN := Lib.hid (next_some h.wl h.blt h.bw hB (by omega) hmu hm hmz hL hl)
  have HLL := Lib.hid hll
  have c5 := h.ma.co.get 3 rfl
  have hc := h.ma.co.lt
  clear h hz hmu hm hmz hB hL hl hll
  have hmn := mNext
  unfold putV
  go_enter Tryz.func24, Tryz.ntmps24
  go_wp2_with fail
  refine HN.out.mono ?_; rintro e w1 ⟨⟨g, rfl, hwd⟩, O1, hw, ha⟩
  obtain ⟨hs, hg⟩ := H.out.world hw ha
  have hs2 := hs.ma.set 7 rfl (.bool false) (s' := { s with fl := false }) rfl
  have hs3 := hs.mach hs2.1 hs2.2 (.inl rfl)
  have HS := Lib.hid hs3.1
  have HG := Lib.hid (hg.trans hs3.2)
  have HW : Hid (WideB (w1.setCell ⟨k.cb, 266, none⟩ (.bool false)) w.heap.size g l.T.length l.T) := Lib.hid (hwd.block (Below.heap_setCell _ _ _ _ (by have := hwd.lt.1; have := H.out.ma.co.lt; show g ≠ k.cb; omega)))
  have c7 := hs.ma.co.get 7 rfl
  have hc := hs.ma.co.lt
  have z7 := hs.ma.co.fz 266
  clear hw ha hs hg hs2 hs3 hmn hwd
  go_upto_region 6 with fail
  obtain ⟨W, hW⟩ : ∃ W, w1.setCell ⟨k.cb, 266, none⟩ (.bool false) = W := ⟨_, rfl⟩
  rw [hW] at HS HG HW ⊢
  clear hW c7 z7 hc
  have HP := Lib.hid (sput_call (X := l.T) (oa := some ⟨g, 0, none⟩) (cap := l.T.length + 64) HS.out.ma.sp (fun hp => ⟨g, 0, rfl, fun j hj => by
    rw [Nat.zero_add, HW.out.at_ (b := l.T.getD j 0) (by rw [List.getElem?_append_left hj, List.getD_eq_getElem?_getD, List.getElem?_eq_getElem hj]; rfl)]⟩) (fun _ _ _ e => by injection e with e; injection e with _ _ e; cases e) HLL.out)
  have hc := HS.out.ma.co.lt
  go_wp2_with fail
  refine HP.out.mono ?_; rintro e w2 ⟨rfl, ⟨pk2, hs, hp⟩, hk⟩
  have h3 := HS.out.mach (HS.out.ma.space hk hs hp) (hk.mono fun x _ e => .inl (by have := HS.out.ma.or1; omega)) (.inr hp)
  have HS3 := Lib.hid h3.1
  have HG3 := Lib.hid (HG.out.trans h3.2)
  clear hs hp hk h3
  go_wp2_with fail
  go_ret
  exact ⟨rfl, O1, pk2, HS3.out, HG3.out⟩
end
end Go.Proofs.YtdinjlglngpecaaGreatDoor
