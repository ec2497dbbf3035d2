/- Contracts of package syntax's reader: repeats, number, interval, duplication. -/
import Derived.Test.YtbdjcmhfcdamiaaDoorRb
import Derived.Test.YtbdjcmhfcdamiaaDoorWa
namespace Go.Proofs.YtbdjcmhfcdamiaaDoor
open Go.RowKit

/-- A bracket's sign as a text. -/
def sgn (ere : Bool) (c : UInt8) : ByteArray := if ere then ⟨#[c]⟩ else ⟨#[92, c]⟩
theorem sgn_size (ere : Bool) (c : UInt8) : (sgn ere c).size = wideB ere := by cases ere <;> rfl
theorem sgn_bytes (ere : Bool) (c : UInt8) : bytesOf (sgn ere c) = signB ere c.toNat := by cases ere <;> rfl
section
variable {w : World} {rb : Nat} {ere : Bool} {mb mo cap : Nat} {L : List Mk} {i : Nat}
theorem sees_as (s : ByteArray) (l : List Nat) (b : Bool) (hs : s.size ≤ 4096) (hl : bytesOf s = l) (hb : seesAt L i l = b) (hv : RdV w rb ere mb mo cap L i) :
    Calls Tryd.prog 77 #[.pointer (some ⟨rb, 0, none⟩), .string s] w fun e w' => e = .returned (.bool b) ∧ Below w.heap.size w w' := by
  subst hl hb
  exact sees_any s hs hv
theorem sign_as (c : UInt8) {w : World} (c0 : w.cell? ⟨rb, 0, none⟩ = some (.bool ere)) :
    Calls Tryd.prog 92 #[.pointer (some ⟨rb, 0, none⟩), .string ⟨#[c]⟩] w fun e w' => e = .returned (.string (sgn ere c)) ∧ w = w' := by
  refine (sign_any ⟨#[c]⟩ (by simp [ByteArray.size]) c0).mono ?_
  rintro e w' ⟨rfl, rfl⟩
  refine ⟨?_, rfl⟩
  cases ere <;> rfl

set_option maxHeartbeats 800000 in
theorem repeats_any (hv : RdV w rb ere mb mo cap L i) :
    Calls Tryd.prog 93 #[.pointer (some ⟨rb, 0, none⟩)] w fun e w' => e = .returned (.bool (repeatsL ere L i)) ∧ Below w.heap.size w w' := by
  cases h1 : seesAt L i [42] with
  | true =>
    have HE : Hid (repeatsL ere L i = true) := by simp [Hid, repeatsL, h1]
    have hv1 := hv
    go_enter Tryd.func93, Tryd.ntmps93
    go_wp2_with fail
    refine (sees_as _ _ _ (by decide) (by rfl) h1 hv).mono ?_; rintro e w1 ⟨rfl, hb1⟩
    go_wp2_with fail
    go_ret
    exact ⟨ret_bool HE.out.symm, hb1⟩
  | false =>
    have tail : ∀ (w1 : World), Below w.heap.size w w1 → RdV w1 rb ere mb mo cap L i := fun w1 hb => hv.below hb
    cases he : ere with
    | false =>
      subst he
      have HE : Hid (repeatsL false L i = seesAt L i (signB false 123)) := by simp [Hid, repeatsL, h1]
      go_enter Tryd.func93, Tryd.ntmps93
      go_wp2_with fail
      refine (sees_as _ _ _ (by decide) (by rfl) h1 hv).mono ?_; rintro e w1 ⟨rfl, hb1⟩
      have hv1 := hv.below hb1
      have c0 := hv1.c0
      have hr := hv1.hrb
      go_wp2_with fail
      refine (sign_as 123 c0).mono ?_; rintro e w2 ⟨rfl, rfl⟩
      go_wp2_with fail
      refine (sees_as _ _ _ (by decide) (sgn_bytes _ _) rfl hv1).mono ?_; rintro e w2 ⟨rfl, hb2⟩
      go_wp2_with fail
      go_ret
      exact ⟨ret_bool HE.out.symm, hb1.trans (hb2.mono hb1.size)⟩
    | true =>
      subst he
      cases h2 : seesAt L i [43] with
      | true =>
        have HE : Hid (repeatsL true L i = true) := by simp [Hid, repeatsL, h2]
        go_enter Tryd.func93, Tryd.ntmps93
        go_wp2_with fail
        refine (sees_as _ _ _ (by decide) (by rfl) h1 hv).mono ?_; rintro e w1 ⟨rfl, hb1⟩
        have hv1 := hv.below hb1
        have c0 := hv1.c0
        have hr := hv1.hrb
        go_wp2_with fail
        refine (sees_as _ _ _ (by decide) (by rfl) h2 hv1).mono ?_; rintro e w2 ⟨rfl, hb2⟩
        go_wp2_with fail
        go_ret
        exact ⟨ret_bool HE.out.symm, hb1.trans (hb2.mono hb1.size)⟩
      | false =>
        cases h3 : seesAt L i [63] with
        | true =>
          have HE : Hid (repeatsL true L i = true) := by simp [Hid, repeatsL, h3]
          go_enter Tryd.func93, Tryd.ntmps93
          go_wp2_with fail
          refine (sees_as _ _ _ (by decide) (by rfl) h1 hv).mono ?_; rintro e w1 ⟨rfl, hb1⟩
          have hv1 := hv.below hb1
          have c0 := hv1.c0
          have hr := hv1.hrb
          go_wp2_with fail
          refine (sees_as _ _ _ (by decide) (by rfl) h2 hv1).mono ?_; rintro e w2 ⟨rfl, hb2⟩
          have hv2 := hv1.below hb2
          go_wp2_with fail
          refine (sees_as _ _ _ (by decide) (by rfl) h3 hv2).mono ?_; rintro e w3 ⟨rfl, hb3⟩
          have hbe := hb1.trans (hb2.mono hb1.size)
          go_wp2_with fail
          go_ret
          exact ⟨ret_bool HE.out.symm, hbe.trans (hb3.mono hbe.size)⟩
        | false =>
          have HE : Hid (repeatsL true L i = seesAt L i (signB true 123)) := by simp [Hid, repeatsL, h1, h2, h3]
          go_enter Tryd.func93, Tryd.ntmps93
          go_wp2_with fail
          refine (sees_as _ _ _ (by decide) (by rfl) h1 hv).mono ?_; rintro e w1 ⟨rfl, hb1⟩
          have hv1 := hv.below hb1
          have c0 := hv1.c0
          have hr := hv1.hrb
          go_wp2_with fail
          refine (sees_as _ _ _ (by decide) (by rfl) h2 hv1).mono ?_; rintro e w2 ⟨rfl, hb2⟩
          have hv2 := hv1.below hb2
          go_wp2_with fail
          refine (sees_as _ _ _ (by decide) (by rfl) h3 hv2).mono ?_; rintro e w3 ⟨rfl, hb3⟩
          have hbe := hb1.trans (hb2.mono hb1.size)
          have hbe3 := hbe.trans (hb3.mono hbe.size)
          have hv3 := hv2.below hb3
          have c03 := hv3.c0
          have hr3 := hv3.hrb
          go_wp2_with fail
          refine (sign_as 123 c03).mono ?_; rintro e w4 ⟨rfl, rfl⟩
          go_wp2_with fail
          refine (sees_as _ _ _ (by decide) (sgn_bytes _ _) rfl hv3).mono ?_; rintro e w4 ⟨rfl, hb4⟩
          go_wp2_with fail
          go_ret
          exact ⟨ret_bool HE.out.symm, hbe3.trans (hb4.mono hbe3.size)⟩

set_option maxRecDepth 100000 in
set_option maxHeartbeats 800000 in
theorem number_any {s : Rst} {k : Nat} {ev : Value} (hv : RdS w rb ere mb mo cap L s k ev) :
    Calls Tryd.prog 124 #[.pointer (some ⟨rb, 0, none⟩)] w fun e w' => e = .returned (.int .i64 (numL L s.i).1) ∧ RdS w' rb ere mb mo cap L ⟨(numL L s.i).2, s.ended⟩ k ev ∧ RBut rb none w w' := by
  have hlen := hv.m.len
  go_enter Tryd.func124, Tryd.ntmps124
  go_wp2_with fail
  go_loopw [3] (fun n wr => ∃ (j : Nat) (m : Int), n = .int .i64 m ∧ RdS wr rb ere mb mo cap L ⟨j, s.ended⟩ k ev ∧ RBut rb none w wr ∧ Hid (numL L s.i = numberL L (L.length - j) m j) ∧ -1 ≤ m ∧ m ≤ 256) (fun _ wr => L.length - (intOf ((wr.cell? ⟨rb, 2, none⟩).getD undef)).toNat)
  case atStart => exact ⟨s.i, -1, rfl, hv, RBut.refl _ _ _, rfl, by omega, by omega⟩
  case round =>
    obtain ⟨j, m, rfl, hr, hb, HS, hm1, hm2⟩ := hrel
    have c1 := hr.c1
    have c2 := hr.c2
    have rbl := hr.lt
    have mbl := hr.m.lt
    have hj := hr.at_
    have f0 := hr.fz 2
    simp only at c2 hj
    by_cases hlt : j < L.length
    · have cb := hr.m.b j hlt
      have cp := hr.m.p j hlt
      have hu := hr.m.u j hlt
      have HR := Lib.hid hr
      have HB := Lib.hid hb
      clear hr hb hv
      generalize hm : markAt L j = mk at cb cp hu
      obtain ⟨mby, mpl⟩ := mk
      have HM := Lib.hid hm
      clear hm
      simp only at cb cp hu
      cases mpl with
      | true =>
        have HE : Hid (numL L s.i = (m, j)) := by
          rw [Hid, HS.out, show L.length - j = (L.length - j - 1) + 1 by omega, numberL, if_neg (by omega), if_pos (by simp [HM.out])]
        go_wp2_with fail
        refine wp_region_segs (X := none) 10 [] [0, 1, 2, 3, 4, 5, 6, 7, 8, 9] (by kernel_rfl) (by kernel_rfl) rfl (fun _ _ _ _ _ h => h) ?_
        simp only [wpSegs, pickSegs_nil, pickOps_nil, pickOps_cons, List.getD_cons_zero, List.getD_cons_succ, List.drop_succ_cons, List.drop_nil]
        repeat (go_big_quiet_step (fail))
        refine wpQuiet_nil ?_
        go_wp2_with fail
        refine wp_region_segs (X := none) 11 [([0, 1, 2, 3, 4, 5, 6, 7, 8, 9], 10)] [] (by kernel_rfl) (by kernel_rfl) rfl (fun _ _ _ _ _ h => h) ?_
        simp only [wpSegs, pickSegs_nil, pickSegs_cons, pickOps_nil, pickOps_cons, List.getD_cons_zero, List.getD_cons_succ, List.drop_succ_cons, List.drop_zero]
        repeat (go_big_quiet_step (fail))
        refine wpQuiet_nil ?_
        go_wp2_with fail
        refine ⟨keeps_drew (keeps_drew (keeps_alloc _ _)), wpQuiet_nil ?_⟩
        go_wp2_with fail
        go_ret
        rw [HE.out]
        exact ⟨rfl, (HR.out.alloc _).drew.drew, (HB.out.alloc _).drew.drew⟩
      | false =>
        by_cases hlo : mby < 48
        · have HE : Hid (numL L s.i = (m, j)) := by
            rw [Hid, HS.out, show L.length - j = (L.length - j - 1) + 1 by omega, numberL, if_neg (by omega), if_pos (by simp [HM.out, hlo])]
          go_wp2_with fail
          refine wp_region_segs (X := none) 10 [] [0, 1, 2, 3, 4, 5, 6, 7, 8, 9] (by kernel_rfl) (by kernel_rfl) rfl (fun _ _ _ _ _ h => h) ?_
          simp only [wpSegs, pickSegs_nil, pickOps_nil, pickOps_cons, List.getD_cons_zero, List.getD_cons_succ, List.drop_succ_cons, List.drop_nil]
          repeat (go_big_quiet_step (fail))
          refine wpQuiet_nil ?_
          go_wp2_with fail
          refine wp_region_segs (X := none) 11 [([0, 1, 2, 3, 4, 5, 6, 7, 8, 9], 10)] [] (by kernel_rfl) (by kernel_rfl) rfl (fun _ _ _ _ _ h => h) ?_
          simp only [wpSegs, pickSegs_nil, pickSegs_cons, pickOps_nil, pickOps_cons, List.getD_cons_zero, List.getD_cons_succ, List.drop_succ_cons, List.drop_zero]
          repeat (go_big_quiet_step (fail))
          refine wpQuiet_nil ?_
          go_wp2_with fail
          refine ⟨keeps_drew (keeps_drew (keeps_alloc _ _)), wpQuiet_nil ?_⟩
          go_wp2_with fail
          go_ret
          rw [HE.out]
          exact ⟨rfl, (HR.out.alloc _).drew.drew, (HB.out.alloc _).drew.drew⟩
        · by_cases hhi : 57 < mby
          · have HE : Hid (numL L s.i = (m, j)) := by
              rw [Hid, HS.out, show L.length - j = (L.length - j - 1) + 1 by omega, numberL, if_neg (by omega), if_pos (by simp [HM.out, hhi])]
            go_wp2_with fail
            refine wp_region_segs (X := none) 10 [] [0, 1, 2, 3, 4, 5, 6, 7, 8, 9] (by kernel_rfl) (by kernel_rfl) rfl (fun _ _ _ _ _ h => h) ?_
            simp only [wpSegs, pickSegs_nil, pickOps_nil, pickOps_cons, List.getD_cons_zero, List.getD_cons_succ, List.drop_succ_cons, List.drop_nil]
            repeat (go_big_quiet_step (fail))
            refine wpQuiet_nil ?_
            go_wp2_with fail
            refine wp_region_segs (X := none) 11 [([0, 1, 2, 3, 4, 5, 6, 7, 8, 9], 10)] [] (by kernel_rfl) (by kernel_rfl) rfl (fun _ _ _ _ _ h => h) ?_
            simp only [wpSegs, pickSegs_nil, pickSegs_cons, pickOps_nil, pickOps_cons, List.getD_cons_zero, List.getD_cons_succ, List.drop_succ_cons, List.drop_zero]
            repeat (go_big_quiet_step (fail))
            refine wpQuiet_nil ?_
            go_wp2_with fail
            refine ⟨keeps_drew (keeps_drew (keeps_alloc _ _)), wpQuiet_nil ?_⟩
            go_wp2_with fail
            go_ret
            rw [HE.out]
            exact ⟨rfl, (HR.out.alloc _).drew.drew, (HB.out.alloc _).drew.drew⟩
          · have HE : Hid (numL L s.i = numberL L (L.length - (j + 1)) (min (max m 0 * 10 + ((mby : Int) - 48)) 256) (j + 1)) := by
              rw [Hid, HS.out, show L.length - j = (L.length - (j + 1)) + 1 by omega, numberL, if_neg (by omega), if_neg (by simp [HM.out, hlo, hhi]), HM.out]
            go_wp2_with fail
            refine wp_region_segs (X := none) 10 [] [0, 1, 2, 3, 4, 5, 6, 7, 8, 9] (by kernel_rfl) (by kernel_rfl) rfl (fun _ _ _ _ _ h => h) ?_
            simp only [wpSegs, pickSegs_nil, pickOps_nil, pickOps_cons, List.getD_cons_zero, List.getD_cons_succ, List.drop_succ_cons, List.drop_nil]
            repeat (go_big_quiet_step (fail))
            refine wpQuiet_nil ?_
            go_wp2_with fail
            refine wp_region_segs (X := none) 11 [([0, 1, 2, 3, 4, 5, 6, 7, 8, 9], 10)] [] (by kernel_rfl) (by kernel_rfl) rfl (fun _ _ _ _ _ h => h) ?_
            simp only [wpSegs, pickSegs_nil, pickSegs_cons, pickOps_nil, pickOps_cons, List.getD_cons_zero, List.getD_cons_succ, List.drop_succ_cons, List.drop_zero]
            repeat (go_big_quiet_step (fail))
            refine wpQuiet_nil ?_
            go_wp2_with fail
            refine ⟨keeps_drew (keeps_drew (keeps_alloc _ _)), wpQuiet_nil ?_⟩
            go_wp2_with fail
            have hx : (if 256 < (if m < 0 then 0 else m) * 10 + ((mby : Int) - 48) then 256 else (if m < 0 then 0 else m) * 10 + ((mby : Int) - 48)) = min (max m 0 * 10 + ((mby : Int) - 48)) 256 := by
              rw [Int.min_def, Int.max_def]; split <;> split <;> split <;> split <;> omega
            have hr1 := HR.out.setAt (j := j + 1) hlt
            have hb1 := HB.out.store 2 (.int .i64 ((j + 1 : Nat) : Int))
            rw [Int.natCast_add, show ((1 : Nat) : Int) = 1 from rfl] at hr1 hb1
            refine ⟨⟨j + 1, _, rfl, (hr1.alloc _).drew.drew, (hb1.alloc _).drew.drew, ?_, ?_, ?_⟩, ?_⟩
            · rw [hx]; exact HE.out
            · split <;> split at * <;> omega
            · split <;> split at * <;> omega
            · have h2 := (hr1.alloc (.cells #[.int .u8 mby, .bool false] 33)).drew.drew.c2
              rw [h2, c2]
              simp [intOf]
              omega
    · have HE : Hid (numL L s.i = (m, j)) := by
        rw [Hid, HS.out, show L.length - j = 0 by omega, numberL]
      have h1 : ¬ ((j : Int) < (L.length : Int)) := by omega
      go_wp2_with fail
      refine wp_region_segs (X := none) 10 [] [0, 1, 2, 3, 4, 5, 6, 7, 8, 9] (by kernel_rfl) (by kernel_rfl) rfl (fun _ _ _ _ _ h => h) ?_
      simp only [wpSegs, pickSegs_nil, pickOps_nil, pickOps_cons, List.getD_cons_zero, List.getD_cons_succ, List.drop_succ_cons, List.drop_nil]
      repeat (go_big_quiet_step (fail))
      refine wpQuiet_nil ?_
      go_wp2_with fail
      go_ret
      rw [HE.out]
      exact ⟨rfl, hr.drew, hb.drew⟩
end
end Go.Proofs.YtbdjcmhfcdamiaaDoor
