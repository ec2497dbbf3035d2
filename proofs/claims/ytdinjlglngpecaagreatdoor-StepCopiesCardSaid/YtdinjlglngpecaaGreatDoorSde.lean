/- Contract: a world of lines, mute or not: Out. No condition. -/
import Derived.Test.YtdinjlglngpecaaGreatDoorSdd
namespace Go.Proofs.YtdinjlglngpecaaGreatDoor
open Go.RowKit

section
variable {w w' : World} {b base m ca n u s : Nat} {mu : Bool} {oa : Option Addr} {O : Nat → Option Nat} {A X : List Nat}
set_option maxRecDepth 100000 in
set_option maxHeartbeats 3200000 in
theorem out_call (h : WlM w b base mu oa m ca n u s O A) (hb : b < base) (hbw : base ≤ w.heap.size) (hs : s ≤ 549755813888) (hu : u ≤ 549755813888) {xb : Nat} {ox : Option Addr} {cx : Nat} (hX : w.ownsRow xb 5 1 (.slice ox X.length cx) X.length (u8s X)) (hxf : ∀ x, (Value.slice ox X.length cx).ownBlock = some x → x ≠ b ∧ ¬ foot O x) (hl : A.length + X.length ≤ 549755813888) :
    Calls Tryz.prog 217 #[.pointer (some ⟨b, 0, none⟩), .slice ox X.length cx] w fun e w' => e = .returned (.int .i64 0) ∧ ∃ O', WlM w' b base mu oa m ca n (u + 1) (s + 4 + X.length) O' (A ++ X) ∧ Adds w w' b O O' := by
  have HX := Lib.hid (note_call h hb hbw (by omega) (.inr rfl) ⟨#[]⟩ (Src.own hX) (by omega) (fun x hx => (hxf x hx).1))
  have HR := Lib.hid hX
  have HBB := Lib.hid hb
  have HBW := Lib.hid hbw
  have HXF := Lib.hid hxf
  have HL := Lib.hid hl
  have hu' : (u : Int) ≤ 2305843009213693951 := by omega
  clear h hb hbw hs hu hX hxf hl
  go_enter Tryz.func217, Tryz.ntmps217
  go_wp2_with fail
  refine HX.out.mono ?_; rintro e w1 ⟨rfl, O1, hw, hk⟩
  have HW1 := Lib.hid hw
  have HK1 := Lib.hid hk
  have c17 := hw.c17
  have z17 := hw.fz 17
  have hlt := hw.lt
  clear hw hk HX
  go_upto_region 3 with fail
  rw [show (u : Int) + 1 = ((u + 1 : Nat) : Int) by omega]
  have HW2 := Lib.hid (HW1.out.setU HBB.out (u + 1))
  have HK2 := Lib.hid (HK1.out.trans (Adds.set w1 b O1 17 (.int .i64 ((u + 1 : Nat) : Int))))
  obtain ⟨W, hW⟩ : ∃ W, w1.setCell ⟨b, 17, none⟩ (.int .i64 ((u + 1 : Nat) : Int)) = W := ⟨_, rfl⟩
  rw [hW] at HW2 HK2 ⊢
  clear hW c17 z17 hlt HW1 HK1
  have HRW := Lib.hid (HK2.out.kept.row HR.out fun k hk e => e.elim (HXF.out k hk).1 (HXF.out k hk).2)
  obtain ⟨v19, k19, cs19, q1, q2, q3, q4, _⟩ := HW2.out.rows 19 (by simp [rowsL])
  obtain ⟨rfl, rfl⟩ := q4 rfl
  have HV := Lib.hid q2
  have HQ := Lib.hid q1
  obtain ⟨oA, kA, rfl⟩ := own_form q2
  have c2 := HW2.out.c2
  have c13 := HW2.out.c13
  have z19 := HW2.out.fz 19
  have hlt := HW2.out.lt
  clear q2 q3 q4
  go_wp2_with (at_builtin; refine wpList_app (n := A.length) (m := X.length) (news := u8s X) elU8 rfl _ _ rfl base rfl HV.out rfl (Src.own HRW.out) (by simp [u8s]) (u8s_one X) (by have := HL.out; unfold maxLen; omega) (by have := HL.out; omega) (Nat.le_trans HBW.out HK2.out.kept.size) ?_)
  intro v3 w3 hown hgr hor
  obtain ⟨o3, k3, rfl⟩ := own_form hown
  have hrow : w3.ownsRow base (rowT 19).1 (rowT 19).2 (.slice o3 (A.length + X.length) k3) (A ++ X).length (u8s (A ++ X)) := by
    rw [List.length_append, show u8s (A ++ X) = u8s A ++ u8s X by simp [u8s]]; exact hown
  obtain ⟨HWA, HAX, c19, z19, hlt⟩ := HW2.out.grew HBB.out (i := 19) (by simp [rowsL]) HQ.out hgr hrow hor (A' := A ++ X) (fun _ => ⟨rfl, rfl⟩) (fun e => absurd rfl e)
  have HK3 := Lib.hid (HK2.out.trans HAX.out)
  clear hown hgr hor hrow q1
  go_upto_region 7 with fail
  obtain ⟨V, hV⟩ : ∃ V, w3.setCell ⟨b, 19, none⟩ (.slice o3 (A.length + X.length) k3) = V := ⟨_, rfl⟩
  rw [hV] at HWA HK3 ⊢
  clear hV c19 z19 hlt HAX
  have c9 := HWA.out.c9
  have hlt := HWA.out.lt
  have HTD := Lib.hid (told_call (HWA.out.below (Below.refl _ _).drew) (by omega))
  refine wp_region_segs (X := none) 16 [] [0, 1, 2, 3, 4, 5, 6, 7, 8, 9, 10, 11, 12, 13, 14, 15] (by kernel_rfl) (by kernel_rfl) rfl (fun _ _ _ _ _ h => h) ?_
  simp only [wpSegs, pickSegs_nil, pickOps_nil, pickOps_cons, List.getD_cons_zero, List.getD_cons_succ, List.drop_succ_cons, List.drop_nil]
  repeat (go_big_quiet_step (fail))
  refine wpQuiet_nil ?_
  go_wp2_with fail
  refine HTD.out.mono ?_; rintro e w9 ⟨rfl, hb9⟩
  have hb10 : Below V.heap.size V w9 := (Below.refl V.heap.size V).drew.trans hb9
  have HB10 := Lib.hid hb10
  clear hb9 hb10
  go_wp2_with fail
  go_ret
  exact ⟨rfl, _, (HWA.out.below HB10.out).mono (by omega), HK3.out.below HB10.out⟩
end
end Go.Proofs.YtdinjlglngpecaaGreatDoor
