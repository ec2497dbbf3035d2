/- Contracts: a world of lines, mute or not: lends. No condition. -/
import Derived.Test.YtdinjlglngpecaaGreatDoorSdb
namespace Go.Proofs.YtdinjlglngpecaaGreatDoor
open Go.RowKit

section
variable {w w' : World} {b base m ca n u s : Nat} {mu : Bool} {oa : Option Addr} {O : Nat → Option Nat} {A : List Nat}
theorem WlM.foot1 (h : WlM w b base mu oa m ca n u s O A) {w1 : World} {O' : Nat → Option Nat} (ha : Adds w1 w' b O O') {g k : Nat} {T : List Nat} (hg : WideB w1 w.heap.size g k T) : WideB w' w.heap.size g k T := by
  have := hg.lt
  refine hg.block (ha.kept.block g this.2 fun e => ?_)
  rcases e with e | e
  · have := h.lt; omega
  · have := (h.footLt e).2; omega
set_option maxRecDepth 100000 in
set_option maxHeartbeats 3200000 in
theorem lends_call (h : WlM w b base mu oa m ca n u s O A) (hb : b < base) (hbw : base ≤ w.heap.size) (hmu : mu = false → s < 500) {ob : Option Addr} {cb : Nat} {T : List Nat} (ht : BtM w ob T) (hl : T.length ≤ 140737488355328) :
    Calls Tryz.prog 225 #[.pointer (some ⟨b, 0, none⟩), .slice ob T.length cb] w fun e w' => (∃ g, e = .returned (.slice (some ⟨g, 0, none⟩) T.length (T.length + 64)) ∧ WideB w' w.heap.size g T.length T) ∧ ∃ O', WlM w' b base mu oa m ca n u (s + 2) O' A ∧ Adds w w' b O O' := by
  have HX := Lib.hid (wideBytesU (cap := cb) ht hl)
  have H := Lib.hid h
  have HBB := Lib.hid hb
  have HBW := Lib.hid hbw
  have HMU := Lib.hid hmu
  clear h ht hl hmu hb hbw
  go_enter Tryz.func225, Tryz.ntmps225
  go_wp2_with fail
  refine HX.out.mono ?_; rintro e w1 ⟨⟨g, rfl, hw⟩, hb⟩
  have HW := Lib.hid hw
  have HB := Lib.hid hb
  have H1 := Lib.hid (H.out.below hb)
  have HA1 := Lib.hid ((Adds.refl w b O).below hb)
  clear hw hb HX
  have c12 := H1.out.c12
  have hlt := H1.out.lt
  cases mu
  case true =>
    go_wp2_with fail
    go_ret
    exact ⟨⟨g, rfl, HW.out⟩, O, H1.out.mono (by omega), HA1.out⟩
  have HS5 : Hid (s < 500) := Lib.hid (HMU.out rfl)
  clear HMU
  obtain ⟨v23, k23, cs23, q1, q2, q3, _, q5⟩ := H1.out.rows 23 (by simp [rowsL])
  have Q5 := Lib.hid (q5 (by decide))
  have Q2 := Lib.hid q2
  have hk : (k23 : Int) < 1000 := by have := q5 (by decide); have := HS5.out; omega
  have hk' : k23 < 1000 := by omega
  obtain ⟨o23, c23, rfl⟩ := own_form q2
  have z23 := H1.out.fz 23
  have hba : Below w1.heap.size w1 (w1.alloc (.cells #[.slice (some ⟨g, 0, none⟩) T.length (T.length + 64)] 33)) := (Below.refl _ _).alloc (Nat.le_refl _) _
  have HHA := Lib.hid (H1.out.below hba)
  have HQA := Lib.hid ((hba.cell (p := ⟨b, 23, none⟩) H1.out.lt).trans q1)
  have HBA := Lib.hid hba
  clear hba q2 q3 q5
  go_wp2_with (at_builtin; refine wpList_app elSB rfl _ _ rfl base (n := k23) (m := 1) (news := [.slice (some ⟨g, 0, none⟩) T.length (T.length + 64)]) rfl (ownsRow_of_block Q2.out fun k hk => heap_alloc_old _ _ (Q2.out.lt k hk).2) rfl (Src.new w1 [.slice (some ⟨g, 0, none⟩) T.length (T.length + 64)] _ _ _) rfl (by simp [Value.oneCell']) (by unfold maxLen; omega) (by omega) (by have := HBW.out; have := HB.out.size; simp; omega) ?_)
  intro v2 w2 ho2 hg2 hor2
  obtain ⟨o2, k2, rfl⟩ := own_form ho2
  obtain ⟨HH3, HAX, c23, z23, hlt⟩ := HHA.out.grew HBB.out (i := 23) (by simp [rowsL]) HQA.out hg2 ho2 (hor2.imp id fun e => e.trans (by simp)) (A' := A) (fun e => by cases e) (fun _ => ⟨by have := Q5.out; omega, rfl⟩)
  have HW3 := Lib.hid (H.out.foot1 HAX.out (HW.out.below HBA.out))
  have HG3 : Hid (¬ foot (upd O 23 (Value.slice o2 (k23 + 1) k2).ownBlock) g) := Lib.hid (fun e => (HAX.out.grow g e).elim (fun f => by have := (H.out.footLt f).2; have := HW.out.lt; omega) (fun f => by have := HW.out.lt; have := HBA.out.size; omega))
  have HA3 := Lib.hid ((HA1.out.below HBA.out).trans HAX.out)
  clear ho2 hg2 hor2 HHA HQA HBA HAX Q5 Q2 H1 hk hk' c12
  go_upto_region 4 with fail
  obtain ⟨V, hV⟩ : ∃ V, w2.setCell ⟨b, 23, none⟩ (.slice o2 (k23 + 1) k2) = V := ⟨_, rfl⟩
  rw [hV] at HH3 HA3 HW3 ⊢
  clear hV c23 z23 hlt
  obtain ⟨v24, k24, cs24, q1, q2, q3, _, q5⟩ := HH3.out.rows 24 (by simp [rowsL])
  have Q5 := Lib.hid (q5 (by decide))
  have HK24 : Hid (k24 < 1000) := Lib.hid (by have := q5 (by decide); have := HS5.out; omega)
  have Q2 := Lib.hid q2
  obtain ⟨o24, c24, rfl⟩ := own_form q2
  have z24 := HH3.out.fz 24
  have hlt := HH3.out.lt
  have hba : Below V.heap.size V (V.alloc (.cells #[.slice ob T.length cb] 33)) := (Below.refl _ _).alloc (Nat.le_refl _) _
  have HHA := Lib.hid (HH3.out.below hba)
  have HQA := Lib.hid ((hba.cell (p := ⟨b, 24, none⟩) HH3.out.lt).trans q1)
  have HBA := Lib.hid hba
  clear hba q2 q3 q5
  go_wp2_with (at_builtin; refine wpList_app elSB rfl _ _ rfl base (n := k24) (m := 1) (news := [.slice ob T.length cb]) rfl (ownsRow_of_block Q2.out fun k hk => heap_alloc_old _ _ (Q2.out.lt k hk).2) rfl (Src.new V [.slice ob T.length cb] _ _ _) rfl (by simp [Value.oneCell']) (by have := HK24.out; unfold maxLen; omega) (by have := HK24.out; omega) (by have := HBW.out; have := HA3.out.kept.size; simp; omega) ?_)
  intro v4 w4 ho4 hg4 hor4
  obtain ⟨o4, k4, rfl⟩ := own_form ho4
  obtain ⟨HH5, HAX, c24, z24, hlt⟩ := HHA.out.grew HBB.out (i := 24) (by simp [rowsL]) HQA.out hg4 ho4 (hor4.imp id fun e => e.trans (by simp)) (A' := A) (fun e => by cases e) (fun _ => ⟨by have := Q5.out; omega, rfl⟩)
  have HA5 := Lib.hid ((HA3.out.below HBA.out).trans HAX.out)
  have HW5 : Hid (WideB (w4.setCell ⟨b, 24, none⟩ (.slice o4 (k24 + 1) k4)) w.heap.size g T.length T) := Lib.hid (by
    have hw := HW3.out.below HBA.out
    refine hw.block (HAX.out.kept.block g hw.lt.2 fun e => ?_)
    rcases e with e | e
    · have := H.out.lt; have := hw.lt; omega
    · exact HG3.out e)
  clear ho4 hg4 hor4 HAX HHA HQA
  go_wp2_with fail
  go_ret
  exact ⟨⟨g, rfl, HW5.out⟩, _, HH5.out, HA5.out⟩
end
end Go.Proofs.YtdinjlglngpecaaGreatDoor
