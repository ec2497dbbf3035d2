/- Parts: Rk Dd De Df Dg. -/
import Derived.Test.YtbdjcmhfcdamiaaGreatDoorQ6
import Derived.WalkMore
import Derived.Deep.LoopGhost
import Derived.WalkSmall
/- Contracts of package syntax's reader: sides, given its rows. -/
namespace Go.Proofs.YtbdjcmhfcdamiaaGreatDoor
open Go.RowKit

section
variable {rb : Nat} {ere : Bool} {mb mo cap : Nat} {L : List Mk} {k : Nat}
theorem NdRow.below {w0 w w' : World} {re : List Nd} {v ev : Value} (h : NdRow w0 re v w ev) (hb : Below w.heap.size w w') : NdRow w0 re v w' ev := ⟨ownsRow_of_block h.1 fun g hg => hb.block g (h.lt g hg).2, h.2⟩
/-- A row of the call's own, beside what a part of the reader has done. -/
theorem NdRow.part {w0 w w' : World} {re : List Nd} {v ev ev' : Value} (h : NdRow w0 re v w ev) (hb : RBut rb ev.ownBlock w w') (hn : newOr w ev.ownBlock ev'.ownBlock) (hr : rb < w0.heap.size) : NdRow w0 re v w' ev' :=
  ⟨ownsRow_of_block h.1 fun g hg => hb.block g (h.lt g hg).2 (by have := (h.lt g hg).1; omega) (h.2 g hg), fun g hg => hn.ne (h.lt g hg).2 (h.2 g hg)⟩

/-- Behind a list that was laid and gone on with. -/
theorem after_lit {w W w4 : World} {s : Rst} {ev : Value} {eb : Option Nat} {o : Obj} (hr : RdS W rb ere mb mo cap L s k ev) (hb : RBut rb eb w W) (hg : (W.alloc o).grownBy w4 (some W.heap.size)) :
    RdS w4 rb ere mb mo cap L s k ev ∧ RBut rb eb w w4 ∧ ∀ al va, NdRow w al va W ev → NdRow w al va w4 ev := by
  refine ⟨?_, ?_, ?_⟩
  · refine (hr.alloc o).beside hg (fun g h => ?_) (fun g h he => ?_)
    · have := hr.lt; cases h; exact this
    · have := hr.evlt g h; cases he; omega
  · exact (hb.alloc o).beside hg (fun g h => by cases h; exact hb.size)
  · intro al va h
    have h1 := h.below ((Below.refl W.heap.size W).alloc (Nat.le_refl _) o)
    exact ⟨ownsRow_of_block h1.1 fun g hg' => hg.block g (h1.lt g hg').2 (fun e => by have := (h.lt g hg').2; cases e; omega), h.2⟩
theorem NdRow.made {w W w4 : World} {ev v4 : Value} {re : List Nd} (hnd : Nds w4 w.heap.size v4 re) (hev : ∀ g, ev.ownBlock = some g → g < W.heap.size) (hblk : v4.ownBlock = some W.heap.size ∨ v4.ownBlock = some (W.heap.size + 1)) : NdRow w re v4 w4 ev := by
  refine ⟨hnd, fun g hg e => ?_⟩
  have := hev g e.symm
  rcases hblk with h | h <;> (rw [h] at hg; cases hg; omega)
theorem after_app {w W w4 : World} {s : Rst} {ev va v4 : Value} {al l : List Nd} {eb : Option Nat} (hr : RdS W rb ere mb mo cap L s k ev) (hb : RBut rb eb w W) (hrw : rb < w.heap.size) (ha : NdRow w al va W ev) (hnd : Nds w4 w.heap.size v4 l) (hg : W.grownBy w4 va.ownBlock)
    (hblk : v4.ownBlock = va.ownBlock ∨ v4.ownBlock = some W.heap.size) : RdS w4 rb ere mb mo cap L s k ev ∧ RBut rb eb w w4 ∧ NdRow w l v4 w4 ev := by
  refine ⟨hr.beside hg (fun g h => ?_) (fun g h he => ?_), hb.beside hg (fun g h => (ha.lt g h).1), hnd, fun g hg' e => ?_⟩
  · have := (ha.lt g h).1; omega
  · exact ha.2 g he.symm h.symm
  · rcases hblk with h | h
    · exact ha.2 g (h ▸ hg') e
    · have := hr.evlt g e.symm
      rw [h] at hg'; cases hg'; omega

set_option maxRecDepth 100000 in
set_option maxHeartbeats 1600000 in
theorem sides_of (ih : RowP rb ere mb mo cap L k) : SidesP rb ere mb mo cap L k := by
  intro w s ev hv
  have hlen := hv.m.len
  have hu := Lib.hid hv.m.u
  have hrw := hv.lt
  have hsi := hv.at_
  go_enter Tryz.func57, Tryz.ntmps57
  go_wp2_with fail
  go_step3
  go_wp2_with fail
  go_step3
  go_wp2_with fail
  go_loopg [3, 4] (L.length + 1) (fun f va n wr => ∃ (st : Rst) (all : List Nd) (m : Nat) (ev' : Value), n = .int .i64 (m : Nat) ∧ RdS wr rb ere mb mo cap L st k ev' ∧ RBut rb ev.ownBlock w wr ∧ newOr w ev.ownBlock ev'.ownBlock ∧ NdRow w all va wr ev' ∧
    Hid (sidesK ere L k s = sidesL ere L (rowS ere (k == 64) L (groupL ere L k)) f all m st) ∧ L.length < f + st.i ∧ m + s.i ≤ st.i ∧ all.length + 4 * s.i ≤ 4 * st.i)
  case atStart => exact ⟨s, [], 0, ev, rfl, hv, RBut.refl _ _ _, newOr.refl _ _, ⟨Nds.nil _ _, fun g hg => by cases hg⟩, rfl, by omega, by omega, by simp⟩
  case round =>
    obtain ⟨st, all, m, ev', rfl, hr, hb, hn, hal, HS, hf, hm, hal4⟩ := hrel
    have hst := hr.at_
    obtain ⟨f, hfg⟩ : ∃ f', gk = f' + 1 := ⟨gk - 1, by omega⟩
    rw [hfg] at HS hf
    have HFG := Lib.hid hfg
    have HR := Lib.hid hr
    have HB := Lib.hid hb
    have HN := Lib.hid hn
    have HA := Lib.hid hal
    clear hr hb hn hal hv hfg
    generalize hva : u3 = va at HA ⊢
    clear hva
    go_wp2_with fail
    refine (ih _ _ _ HR.out).mono ?_
    rintro e w1 ⟨hb1, hp1⟩
    cases hrow : rowS ere (k == 64) L (groupL ere L k) st with
    | no er p =>
      have HF : Hid (sidesK ere L k s = .no er p) := by rw [Hid, HS.out, sidesL, hrow]
      rw [hrow] at hp1
      simp only [faults] at hp1
      subst hp1
      have HBT := Lib.hid (HB.out.trans HN.out hb1)
      clear hb1
      go_wp2_with fail
      exact ⟨rfl, HBT.out, by rw [HF.out]; rfl⟩
    | ok pr t =>
      obtain ⟨parts, re⟩ := pr
      have hri := rowS_rise hu.out k hst hrow
      have hsm := rowS_small hu.out k hst hrow
      rw [hrow] at hp1
      simp only at hp1 hsm
      obtain ⟨v1, ev1, rfl, hr1, hn1, v2, rfl, hrow1⟩ := hp1
      have hti := hri.le
      have hlt := hri.lt
      have hR1 := HR.out.lt
      have HA1 := Lib.hid (HA.out.part hb1 hn1 hrw)
      have HRE := Lib.hid (hrow1.mono HB.out.size)
      have HN1 := Lib.hid (HN.out.trans HB.out.size hn1)
      have HB1 := Lib.hid (HB.out.trans HN.out hb1)
      have HR1 := Lib.hid hr1
      have c0 := hr1.c0
      have rbl := hr1.lt
      have HS1 : Hid (sidesK ere L k s = if parts == 0 && ((ere && seesAt L t.i [124]) || decide (0 < m)) then .no 45 t.i else
          if !(ere && seesAt L t.i [124]) then .ok (if 1 < m + 1 then altN (m + 1) :: (all ++ (if parts = 1 then re else catN parts :: re)) else (all ++ (if parts = 1 then re else catN parts :: re))) t
          else sidesL ere L (rowS ere (k == 64) L (groupL ere L k)) f (all ++ (if parts = 1 then re else catN parts :: re)) (m + 1) ⟨t.i + 1, t.ended⟩) := by rw [Hid, HS.out, sidesL, hrow]
      clear hb1 hn1 hrow1 hr1 hri hrow HA HB HN HR HS
      go_upto_region 4 with fail
      go_cut [7] (fun x wc => x = .bool (ere && seesAt L t.i [124]) ∧ RdS wc rb ere mb mo cap L t k ev1 ∧ RBut rb ev.ownBlock w wc ∧ NdRow w all va wc ev1 ∧ NdRow w re v2 wc ev1)
      case first =>
        cases ere with
        | false =>
          go_wp2_with fail
          go_meet
          exact ⟨rfl, HR1.out, HB1.out, HA1.out, HRE.out⟩
        | true =>
          go_wp2_with fail
          refine (sees_as _ _ _ (by decide) (by rfl) rfl HR1.out.v).mono ?_; rintro e w2 ⟨rfl, hb2⟩
          have HF := Lib.hid (show RdS w2 rb true mb mo cap L t k ev1 ∧ RBut rb ev.ownBlock w w2 ∧ NdRow w all va w2 ev1 ∧ NdRow w re v2 w2 ev1 from ⟨HR1.out.below hb2, HB1.out.below hb2, HA1.out.below hb2, HRE.out.below hb2⟩)
          clear hb2
          go_wp2_with fail
          go_meet
          exact ⟨rfl, HF.out⟩
      case rest =>
        obtain ⟨hx, hr2, hb2, ha2, hre2⟩ := hcut
        have HBT := Lib.hid (show (ere && seesAt L t.i [124]) = true → t.i + 1 ≤ L.length from fun h => by simp only [Bool.and_eq_true] at h; simpa using seesAt_le (by decide) h.2)
        generalize (ere && seesAt L t.i [124]) = b at hx HS1 HBT
        subst hx
        have HR2 := Lib.hid hr2
        have HB2 := Lib.hid hb2
        have HA2 := Lib.hid ha2
        have HRE2 := Lib.hid hre2
        have d2 := hr2.c2
        have f2 := hr2.fz 2
        have rbl2 := hr2.lt
        clear hr2 hb2 ha2 hre2 HR1 HB1 HA1 HRE c0 rbl
        go_upto_region 5 with fail
        go_cut [29] (fun x wd => x = .bool (parts == 0 && (b || decide (0 < m))) ∧ wc = wd)
        case first =>
          clear HS1
          by_cases hp0 : parts = 0
          · subst hp0
            cases b with
            | true =>
              go_wp2_with fail
              go_meet
              exact ⟨rfl, rfl⟩
            | false =>
              by_cases hm0 : 0 < m
              · have hm0' : (0 : Int) < (m : Int) := by omega
                go_wp2_with fail
                go_meet
                exact ⟨by simp [hm0], rfl⟩
              · have hm0' : ¬ (0 : Int) < (m : Int) := by omega
                go_wp2_with fail
                go_meet
                exact ⟨by simp [hm0], rfl⟩
          · have hp0' : ¬ (parts : Int) = 0 := by omega
            go_wp2_with fail
            go_meet
            exact ⟨by simp [hp0], rfl⟩
        case rest =>
          obtain ⟨hx, rfl⟩ := hcut
          cases hbad : (parts == 0 && (b || decide (0 < m))) with
          | true =>
            have HF : Hid (sidesK ere L k s = .no 45 t.i) := by rw [Hid, HS1.out, if_pos hbad]
            rw [hbad] at hx
            subst hx
            go_wp2_with fail
            refine (give_any 45 t.i rfl rfl _).mono ?_; rintro e w9 ⟨rfl, rfl⟩
            go_wp2_with fail
            exact ⟨rfl, HB2.out, by rw [HF.out]; rfl⟩
          | false =>
            have HS2 := HS1.out
            rw [if_neg (by rw [hbad]; decide)] at HS2
            rw [hbad] at hx
            subst hx
            obtain ⟨re', hre'⟩ : ∃ re', (if parts = 1 then re else catN parts :: re) = re' := ⟨_, rfl⟩
            rw [hre'] at HS2
            have HS3 := Lib.hid HS2
            have HRE' := Lib.hid hre'
            clear HS1 HS2 hre' hbad
            go_upto_if 37 with fail
            go_cut [6] (fun x wd => RdS wd rb ere mb mo cap L t k ev1 ∧ RBut rb ev.ownBlock w wd ∧ NdRow w all va wd ev1 ∧ NdRow w re' x wd ev1)
            case first =>
              clear HS3
              by_cases hp1 : parts = 1
              · have hp1' : (parts : Int) = 1 := by omega
                have he : re = re' := by rw [← HRE'.out, if_pos hp1]
                subst he
                go_wp2_with fail
                go_meet
                exact ⟨HR2.out, HB2.out, HA2.out, HRE2.out⟩
              · have hp1' : ¬ (parts : Int) = 1 := by omega
                have he : catN parts :: re = re' := by rw [← HRE'.out, if_neg hp1]
                have hl := Nds.lit wc w.heap.size (catN parts) HB2.out.size
                have HRA := Lib.hid (HR2.out.alloc (.cells (ndCells (catN parts)) 39))
                have HBA := Lib.hid (HB2.out.alloc (.cells (ndCells (catN parts)) 39))
                have HAA := Lib.hid (HA2.out.below ((Below.refl _ _).alloc (Nat.le_refl _) (.cells (ndCells (catN parts)) 39)))
                have HREA := Lib.hid (HRE2.out.below ((Below.refl _ _).alloc (Nat.le_refl _) (.cells (ndCells (catN parts)) 39)))
                have hszA := HBA.out.size
                have HCA := Lib.hid (show ∀ g, ev1.ownBlock = some g → g < wc.heap.size from HR2.out.evlt)
                have HCB := Lib.hid (show ∀ g, va.ownBlock = some g → g < wc.heap.size from fun g hg => (HA2.out.lt g hg).2)
                have hszc := HB2.out.size
                have HL := Lib.hid hl
                have HEQ := Lib.hid he
                clear hl he
                go_wp2_with (at_builtin; refine wpList_nds rfl _ _ rfl w.heap.size rfl HL.out rfl HREA.out.nds.src (by simp only [List.length_singleton]; omega) hszA ?_)
                intro v4 w4 hnd4 hgr4 hblk4
                obtain ⟨hr5, hb5, hk5⟩ := after_lit HR2.out HB2.out hgr4
                have HF := Lib.hid (show RdS w4 rb ere mb mo cap L t k ev1 ∧ RBut rb ev.ownBlock w w4 ∧ NdRow w all va w4 ev1 ∧ NdRow w (catN parts :: re) v4 w4 ev1 from ⟨hr5, hb5, hk5 _ _ HA2.out, NdRow.made hnd4 HCA.out hblk4⟩)
                clear hnd4 hgr4 hblk4 hr5 hb5 hk5
                go_wp2_with fail
                go_meet
                rw [← HEQ.out]
                exact HF.out
            case rest =>
              obtain ⟨hr3, hb3, ha3, hre3⟩ := hcut
              have HR3 := Lib.hid hr3
              have HB3 := Lib.hid hb3
              have HA3 := Lib.hid ha3
              have hszW := hb3.size
              have hsre : re'.length ≤ re.length + 1 := by rw [← HRE'.out]; split <;> simp
              have hsrc := Lib.hid hre3.nds.src
              clear hr3 hb3 ha3 hre3 HR2 HB2 HA2 HRE2 d2 f2 rbl2
              go_wp2_with (at_builtin; refine wpList_nds rfl _ _ rfl w.heap.size rfl HA3.out.nds rfl hsrc.out (by omega) hszW ?_)
              intro v4 w4 hnd4 hgr4 hblk4
              obtain ⟨hr5, hb5, ha5⟩ := after_app HR3.out HB3.out hrw HA3.out hnd4 hgr4 hblk4
              have HR5 := Lib.hid hr5
              have HB5 := Lib.hid hb5
              have HA5 := Lib.hid ha5
              have d2 := hr5.c2
              have f2 := hr5.fz 2
              have rbl5 := hr5.lt
              clear hr5 hb5 ha5 hnd4 hgr4 hblk4 hsrc HR3 HB3 HA3 hszW
              cases b with
              | true =>
                have hti1 := HBT.out rfl
                have HS4 : Hid (sidesK ere L k s = sidesL ere L (rowS ere (k == 64) L (groupL ere L k)) f (all ++ re') (m + 1) ⟨t.i + 1, t.ended⟩) := by rw [Hid, HS3.out]; rfl
                have hrZ := HR5.out.setAt (j := t.i + 1) hti1
                have hbZ := HB5.out.store 2 (.int .i64 ((t.i + 1 : Nat) : Int))
                rw [Int.natCast_add, show ((1 : Nat) : Int) = 1 from rfl] at hrZ hbZ
                have haZ := HA5.out.store (b := rb) (fun g hg => by have := (HA5.out.lt g hg).1; omega) 2 (.int .i64 ((t.i : Int) + 1))
                have HZ := Lib.hid (show RdS (w4.setCell ⟨rb, 2, none⟩ (.int .i64 ((t.i : Int) + 1))) rb ere mb mo cap L ⟨t.i + 1, t.ended⟩ k ev1 ∧ RBut rb ev.ownBlock w (w4.setCell ⟨rb, 2, none⟩ (.int .i64 ((t.i : Int) + 1))) ∧ NdRow w (all ++ re') v4 (w4.setCell ⟨rb, 2, none⟩ (.int .i64 ((t.i : Int) + 1))) ev1 from ⟨hrZ, hbZ, haZ⟩)
                clear hrZ hbZ haZ
                go_wp2_with fail
                obtain ⟨z1, z2, z3⟩ := HZ.out
                go_roundg f
                case measure => have := HFG.out; omega
                case rel => exact ⟨⟨t.i + 1, t.ended⟩, all ++ re', m + 1, ev1, by go_num, z1, z2, HN1.out, z3, HS4.out, by simp only; omega, by simp only; omega, by simp only [List.length_append]; omega⟩
              | false =>
                have HS4 : Hid (sidesK ere L k s = .ok (if 1 < m + 1 then altN (m + 1) :: (all ++ re') else all ++ re') t) := by rw [Hid, HS3.out]; rfl
                by_cases hm1 : 1 < m + 1
                · have hm1' : (1 : Int) < (m : Int) + 1 := by omega
                  have HF : Hid (sidesK ere L k s = .ok (altN (m + 1) :: (all ++ re')) t) := by rw [Hid, HS4.out, if_pos hm1]
                  have hx : altN (m + 1) = ⟨5, Cls.zero, 0, 0, 0, (m : Int) + 1⟩ := by rw [altN, Int.natCast_add, show ((1 : Nat) : Int) = 1 from rfl]
                  have HX := Lib.hid hx
                  have HL := Lib.hid (Nds.lit w4 w.heap.size ⟨5, Cls.zero, 0, 0, 0, (m : Int) + 1⟩ HB5.out.size)
                  have hszA := (HB5.out.alloc (.cells (ndCells ⟨5, Cls.zero, 0, 0, 0, (m : Int) + 1⟩) 39)).size
                  have HSA := Lib.hid (HA5.out.below ((Below.refl _ _).alloc (Nat.le_refl _) (.cells (ndCells ⟨5, Cls.zero, 0, 0, 0, (m : Int) + 1⟩) 39))).nds.src
                  have hlen5 : (all ++ re').length ≤ 30000 := by simp only [List.length_append]; omega
                  clear hx d2 f2
                  go_wp2_with (at_builtin; refine wpList_nds rfl _ _ rfl w.heap.size rfl HL.out rfl HSA.out (by simp only [List.length_singleton]; omega) hszA ?_)
                  intro v6 w6 hnd6 hgr6 hblk6
                  obtain ⟨hr7, hb7, _⟩ := after_lit HR5.out HB5.out hgr6
                  have hn7 : NdRow w (altN (m + 1) :: (all ++ re')) v6 w6 ev1 := by rw [HX.out]; exact NdRow.made hnd6 HR5.out.evlt hblk6
                  have HZ := Lib.hid (show RdS w6 rb ere mb mo cap L t k ev1 ∧ RBut rb ev.ownBlock w w6 ∧ NdRow w (altN (m + 1) :: (all ++ re')) v6 w6 ev1 from ⟨hr7, hb7, hn7⟩)
                  clear hnd6 hgr6 hblk6 hr7 hb7 hn7
                  go_wp2_with fail
                  go_ret
                  exact ⟨HZ.out.2.1, by rw [HF.out]; exact ⟨v6, ev1, rfl, HZ.out.1, HN1.out, HZ.out.2.2⟩⟩
                · have hm1' : ¬ (1 : Int) < (m : Int) + 1 := by omega
                  have HF : Hid (sidesK ere L k s = .ok (all ++ re') t) := by rw [Hid, HS4.out, if_neg hm1]
                  go_wp2_with fail
                  go_ret
                  exact ⟨HB5.out, by rw [HF.out]; exact ⟨v4, ev1, rfl, HR5.out, HN1.out, HA5.out⟩⟩
end
end Go.Proofs.YtbdjcmhfcdamiaaGreatDoor

/- The document's reader: its state in memory, and what its functions let go. -/
namespace Go.Proofs.YtbdjcmhfcdamiaaGreatDoor
open Go.RowKit

/-- The document's reader: its block and what hangs on it; 'k' more groups may be open. -/
structure RfS (w : World) (rb : Nat) (ere : Bool) (mb mo cap : Nat) (L : List Mk) (s : Rst) (k : Nat) (ev : Value) : Prop where
  lt : rb < w.heap.size
  c0 : w.cell? ⟨rb, 0, none⟩ = some (.bool ere)
  c1 : w.cell? ⟨rb, 1, none⟩ = some (.slice (some ⟨mb, mo, none⟩) L.length cap)
  c2 : w.cell? ⟨rb, 2, none⟩ = some (.int .i64 s.i)
  c3 : w.cell? ⟨rb, 3, none⟩ = some (.int .i64 s.ended.length)
  c4 : w.cell? ⟨rb, 4, none⟩ = some ev
  c5 : w.cell? ⟨rb, 5, none⟩ = some (.int .i64 (64 - k : Nat))
  c6 : w.cell? ⟨rb, 6, none⟩ = some (.int .i64 0)
  c7 : w.cell? ⟨rb, 7, none⟩ = some (.int .i64 0)
  fz : ∀ o, w.frozen? ⟨rb, o, none⟩ = false
  own : w.ownsRow (rb + 1) 4 1 ev s.ended.length (s.ended.map .bool)
  m : MkAt w mb mo L
  mlt : mb < rb
  at_ : s.i ≤ L.length
  el : s.ended.length ≤ 255
  kl : k ≤ 64

section
variable {w w' : World} {rb : Nat} {ere : Bool} {mb mo cap : Nat} {L : List Mk} {s : Rst} {k : Nat} {ev : Value}
theorem RfS.v (h : RfS w rb ere mb mo cap L s k ev) : RdV w rb ere mb mo cap L s.i :=
  ⟨h.lt, h.m.lt, h.m.len, h.at_, h.c0, h.c1, h.c2, h.m.b, h.m.p⟩
theorem RfS.evlt (h : RfS w rb ere mb mo cap L s k ev) : ∀ g, ev.ownBlock = some g → g < w.heap.size := fun g hg => (h.own.lt g hg).2
theorem RfS.block (h : RfS w rb ere mb mo cap L s k ev) (hb : ∀ g, ev.ownBlock = some g → w'.heap[g]? = w.heap[g]?) (hr : w'.heap[rb]? = w.heap[rb]?) (hm : w'.heap[mb]? = w.heap[mb]?) (hs : w.heap.size ≤ w'.heap.size) : RfS w' rb ere mb mo cap L s k ev where
  lt := Nat.lt_of_lt_of_le h.lt hs
  c0 := (World.cell?_of_block (w := w) (a := ⟨rb, 0, none⟩) hr).trans h.c0
  c1 := (World.cell?_of_block (w := w) (a := ⟨rb, 1, none⟩) hr).trans h.c1
  c2 := (World.cell?_of_block (w := w) (a := ⟨rb, 2, none⟩) hr).trans h.c2
  c3 := (World.cell?_of_block (w := w) (a := ⟨rb, 3, none⟩) hr).trans h.c3
  c4 := (World.cell?_of_block (w := w) (a := ⟨rb, 4, none⟩) hr).trans h.c4
  c5 := (World.cell?_of_block (w := w) (a := ⟨rb, 5, none⟩) hr).trans h.c5
  c6 := (World.cell?_of_block (w := w) (a := ⟨rb, 6, none⟩) hr).trans h.c6
  c7 := (World.cell?_of_block (w := w) (a := ⟨rb, 7, none⟩) hr).trans h.c7
  fz := fun o => (World.frozen?_of_block (w := w) (a := ⟨rb, o, none⟩) hr).trans (h.fz o)
  own := ownsRow_of_block h.own hb
  m := ⟨Nat.lt_of_lt_of_le h.m.lt hs, h.m.len, fun i hi => (World.cell?_of_block (w := w) (a := ⟨mb, mo + i * 2, none⟩) hm).trans (h.m.b i hi), fun i hi => (World.cell?_of_block (w := w) (a := ⟨mb, mo + i * 2 + 1, none⟩) hm).trans (h.m.p i hi), h.m.u⟩
  mlt := h.mlt
  at_ := h.at_
  el := h.el
  kl := h.kl
theorem RfS.below (h : RfS w rb ere mb mo cap L s k ev) (hb : Below w.heap.size w w') : RfS w' rb ere mb mo cap L s k ev :=
  h.block (fun g hg => hb.block g (h.own.lt g hg).2) (hb.block rb h.lt) (hb.block mb h.m.lt) hb.size
theorem RfS.drew (h : RfS w rb ere mb mo cap L s k ev) : RfS w.drew rb ere mb mo cap L s k ev := h.below (Below.refl _ _).drew
theorem RfS.alloc (h : RfS w rb ere mb mo cap L s k ev) (o : Obj) : RfS (w.alloc o) rb ere mb mo cap L s k ev := h.below ((Below.refl _ _).alloc (Nat.le_refl _) _)
theorem RfS.setAt (h : RfS w rb ere mb mo cap L s k ev) {j : Nat} (hj : j ≤ L.length) : RfS (w.setCell ⟨rb, 2, none⟩ (.int .i64 j)) rb ere mb mo cap L ⟨j, s.ended⟩ k ev where
  lt := by simpa [World.setCell] using h.lt
  c0 := (cell?_setCell_ne _ _ _ _ _ (by decide)).trans h.c0
  c1 := (cell?_setCell_ne _ _ _ _ _ (by decide)).trans h.c1
  c2 := World.cell?_setCell_same _ _ _ h.c2
  c3 := (cell?_setCell_ne _ _ _ _ _ (by decide)).trans h.c3
  c4 := (cell?_setCell_ne _ _ _ _ _ (by decide)).trans h.c4
  c5 := (cell?_setCell_ne _ _ _ _ _ (by decide)).trans h.c5
  c6 := (cell?_setCell_ne _ _ _ _ _ (by decide)).trans h.c6
  c7 := (cell?_setCell_ne _ _ _ _ _ (by decide)).trans h.c7
  fz := fun o => frozen_store _ _ _ _ (h.fz o)
  own := ownsRow_setCell_below h.own (Nat.lt_succ_self _) _
  m := h.m.store h.mlt _ _
  mlt := h.mlt
  at_ := hj
  el := h.el
  kl := h.kl
theorem RfS.setOpen (h : RfS w rb ere mb mo cap L s k ev) {k' : Nat} (hk : k' ≤ 64) : RfS (w.setCell ⟨rb, 5, none⟩ (.int .i64 (64 - k' : Nat))) rb ere mb mo cap L s k' ev where
  lt := by simpa [World.setCell] using h.lt
  c0 := (cell?_setCell_ne _ _ _ _ _ (by decide)).trans h.c0
  c1 := (cell?_setCell_ne _ _ _ _ _ (by decide)).trans h.c1
  c2 := (cell?_setCell_ne _ _ _ _ _ (by decide)).trans h.c2
  c3 := (cell?_setCell_ne _ _ _ _ _ (by decide)).trans h.c3
  c4 := (cell?_setCell_ne _ _ _ _ _ (by decide)).trans h.c4
  c5 := World.cell?_setCell_same _ _ _ h.c5
  c6 := (cell?_setCell_ne _ _ _ _ _ (by decide)).trans h.c6
  c7 := (cell?_setCell_ne _ _ _ _ _ (by decide)).trans h.c7
  fz := fun o => frozen_store _ _ _ _ (h.fz o)
  own := ownsRow_setCell_below h.own (Nat.lt_succ_self _) _
  m := h.m.store h.mlt _ _
  mlt := h.mlt
  at_ := h.at_
  el := h.el
  kl := hk
theorem RfS.not_rb (h : RfS w rb ere mb mo cap L s k ev) {b : Nat} (hb : b ≤ rb) : some b ≠ ev.ownBlock := fun e => by have := (h.own.lt b e.symm).1; omega
/-- What the reader has stays while a list beside it grows. -/
theorem RfS.beside (h : RfS w rb ere mb mo cap L s k ev) {row : Option Nat} (hg : w.grownBy w' row) (hr : ∀ g, row = some g → rb < g) (he : ∀ g, ev.ownBlock = some g → some g ≠ row) : RfS w' rb ere mb mo cap L s k ev :=
  h.block (fun g hge => hg.block g (h.evlt g hge) (he g hge)) (hg.block rb h.lt (fun e => by have := hr rb e.symm; omega)) (hg.block mb h.m.lt (fun e => by have := hr mb e.symm; have := h.mlt; omega)) hg.size
/-- A group's end is noted. -/
theorem RfS.note (h : RfS w rb ere mb mo cap L s k ev) {g cp : Nat} (hev : ev = .slice (some ⟨g, 0, none⟩) s.ended.length cp) (j : Nat) : RfS (w.setCell ⟨g, j, none⟩ (.bool true)) rb ere mb mo cap L ⟨s.i, s.ended.set j true⟩ k ev := by
  subst hev
  have ho := h.own
  have hg := (ho.lt g rfl).1
  obtain ⟨h1, h2⟩ := World.ownsRow.stored ho j (.bool true)
  have hr : (w.setCell ⟨g, j, none⟩ (.bool true)).heap[rb]? = w.heap[rb]? := Below.heap_setCell _ _ _ _ (by simp; omega)
  have hm : (w.setCell ⟨g, j, none⟩ (.bool true)).heap[mb]? = w.heap[mb]? := Below.heap_setCell _ _ _ _ (by have := h.mlt; simp; omega)
  exact {
    lt := by simpa [World.setCell] using h.lt
    c0 := (World.cell?_of_block (w := w) (a := ⟨rb, 0, none⟩) hr).trans h.c0
    c1 := (World.cell?_of_block (w := w) (a := ⟨rb, 1, none⟩) hr).trans h.c1
    c2 := (World.cell?_of_block (w := w) (a := ⟨rb, 2, none⟩) hr).trans h.c2
    c3 := by rw [List.length_set]; exact (World.cell?_of_block (w := w) (a := ⟨rb, 3, none⟩) hr).trans h.c3
    c4 := (World.cell?_of_block (w := w) (a := ⟨rb, 4, none⟩) hr).trans h.c4
    c5 := (World.cell?_of_block (w := w) (a := ⟨rb, 5, none⟩) hr).trans h.c5
    c6 := (World.cell?_of_block (w := w) (a := ⟨rb, 6, none⟩) hr).trans h.c6
    c7 := (World.cell?_of_block (w := w) (a := ⟨rb, 7, none⟩) hr).trans h.c7
    fz := fun o => (World.frozen?_of_block (w := w) (a := ⟨rb, o, none⟩) hr).trans (h.fz o)
    own := by simpa [List.map_set] using h1
    m := ⟨by simpa [World.setCell] using h.m.lt, h.m.len, fun i hi => (World.cell?_of_block (w := w) (a := ⟨mb, mo + i * 2, none⟩) hm).trans (h.m.b i hi), fun i hi => (World.cell?_of_block (w := w) (a := ⟨mb, mo + i * 2 + 1, none⟩) hm).trans (h.m.p i hi), h.m.u⟩
    mlt := h.mlt
    at_ := h.at_
    el := by simpa using h.el
    kl := h.kl }
theorem RfS.form (h : RfS w rb ere mb mo cap L s k ev) : ∃ oa oc, ev = .slice oa s.ended.length oc := by
  rcases h.own.2 with ⟨h1, h2⟩ | ⟨g, cp, _, h1, _⟩
  · exact ⟨none, 0, by rw [h1, h2]⟩
  · exact ⟨_, _, h1⟩
theorem RfS.row (h : RfS w rb ere mb mo cap L s k ev) (hn : 0 < s.ended.length) : ∃ g cp, ev = .slice (some ⟨g, 0, none⟩) s.ended.length cp ∧ rb < g ∧ g < w.heap.size := by
  rcases h.own.2 with ⟨_, h2⟩ | ⟨g, cp, _, h1, h3, h4, _⟩
  · omega
  · exact ⟨g, cp, h1, h3, (Array.getElem?_eq_some_iff.1 h4).1⟩
/-- One more group: its number stored, its mark stored in the list that has grown. -/
theorem RfS.push (h : RfS w rb ere mb mo cap L s k ev) {N : Int} (hN : N = ((s.ended.length + 1 : Nat) : Int)) (hg : (w.setCell ⟨rb, 3, none⟩ (.int .i64 N)).grownBy w' ev.ownBlock) {ev' : Value} (ho : w'.ownsRow (rb + 1) 4 1 ev' (s.ended ++ [false]).length ((s.ended ++ [false]).map .bool)) (hl : s.ended.length + 1 ≤ 255) :
    RfS (w'.setCell ⟨rb, 4, none⟩ ev') rb ere mb mo cap L ⟨s.i, s.ended ++ [false]⟩ k ev' := by
  subst hN
  have hlt1 : rb < (w.setCell ⟨rb, 3, none⟩ (.int .i64 ((s.ended.length + 1 : Nat) : Int))).heap.size := by simpa [World.setCell] using h.lt
  have hmlt1 : mb < (w.setCell ⟨rb, 3, none⟩ (.int .i64 ((s.ended.length + 1 : Nat) : Int))).heap.size := by simpa [World.setCell] using h.m.lt
  have hr : w'.heap[rb]? = (w.setCell ⟨rb, 3, none⟩ (.int .i64 ((s.ended.length + 1 : Nat) : Int))).heap[rb]? := hg.block rb hlt1 (h.not_rb (Nat.le_refl _))
  have hm : w'.heap[mb]? = w.heap[mb]? := (hg.block mb hmlt1 (h.not_rb (Nat.le_of_lt h.mlt))).trans (Below.heap_setCell _ _ _ _ (by show mb ≠ rb; exact Nat.ne_of_lt h.mlt))
  have hs : w.heap.size ≤ w'.heap.size := by have := hg.size; simpa [World.setCell] using this
  have hc : ∀ o : Nat, w'.cell? ⟨rb, o, none⟩ = (w.setCell ⟨rb, 3, none⟩ (.int .i64 ((s.ended.length + 1 : Nat) : Int))).cell? ⟨rb, o, none⟩ := fun o => World.cell?_of_block (a := ⟨rb, o, none⟩) hr
  exact {
    lt := by have := Nat.lt_of_lt_of_le h.lt hs; simpa [World.setCell] using this
    c0 := (cell?_setCell_ne _ _ _ _ _ (by decide)).trans ((hc 0).trans ((cell?_setCell_ne _ _ _ _ _ (by decide)).trans h.c0))
    c1 := (cell?_setCell_ne _ _ _ _ _ (by decide)).trans ((hc 1).trans ((cell?_setCell_ne _ _ _ _ _ (by decide)).trans h.c1))
    c2 := (cell?_setCell_ne _ _ _ _ _ (by decide)).trans ((hc 2).trans ((cell?_setCell_ne _ _ _ _ _ (by decide)).trans h.c2))
    c3 := by rw [List.length_append]; exact (cell?_setCell_ne _ _ _ _ _ (by decide)).trans ((hc 3).trans (World.cell?_setCell_same _ _ _ h.c3))
    c4 := World.cell?_setCell_same _ _ _ ((hc 4).trans ((cell?_setCell_ne _ _ _ _ _ (by decide)).trans h.c4))
    c5 := (cell?_setCell_ne _ _ _ _ _ (by decide)).trans ((hc 5).trans ((cell?_setCell_ne _ _ _ _ _ (by decide)).trans h.c5))
    c6 := (cell?_setCell_ne _ _ _ _ _ (by decide)).trans ((hc 6).trans ((cell?_setCell_ne _ _ _ _ _ (by decide)).trans h.c6))
    c7 := (cell?_setCell_ne _ _ _ _ _ (by decide)).trans ((hc 7).trans ((cell?_setCell_ne _ _ _ _ _ (by decide)).trans h.c7))
    fz := fun o => frozen_store _ _ _ _ ((World.frozen?_of_block (a := ⟨rb, o, none⟩) hr).trans (frozen_store _ _ _ _ (h.fz o)))
    own := ownsRow_setCell_below ho (Nat.lt_succ_self _) _
    m := MkAt.store ⟨Nat.lt_of_lt_of_le h.m.lt hs, h.m.len, fun i hi => (World.cell?_of_block (w := w) (a := ⟨mb, mo + i * 2, none⟩) hm).trans (h.m.b i hi), fun i hi => (World.cell?_of_block (w := w) (a := ⟨mb, mo + i * 2 + 1, none⟩) hm).trans (h.m.p i hi), h.m.u⟩ h.mlt _ _
    mlt := h.mlt
    at_ := h.at_
    el := by rw [List.length_append]; exact hl
    kl := h.kl }
/-- What a part of the document's reader does: a fault that is noted, or an answer and a new state. -/
def RPost {α : Type} (w : World) (rb : Nat) (ere : Bool) (mb mo cap : Nat) (L : List Mk) (k : Nat) (ev : Value) (o : Out α) (nil : Value) (R : α → Value → World → Prop) : Ending → World → Prop := fun e w' =>
  RBut rb ev.ownBlock w w' ∧ match o with
  | .no er p => e = .returned nil ∧ er ≠ 0 ∧ rb < w'.heap.size ∧ w'.cell? ⟨rb, 6, none⟩ = some (.int .i64 er) ∧ w'.cell? ⟨rb, 7, none⟩ = some (.int .i64 p)
  | .ok a t => ∃ v ev', e = .returned v ∧ RfS w' rb ere mb mo cap L t k ev' ∧ newOr w ev.ownBlock ev'.ownBlock ∧ R a v w'
/-- The first fault is noted. -/
theorem RfS.noted (h : RfS w rb ere mb mo cap L s k ev) (er p : Int) : ((w.setCell ⟨rb, 6, none⟩ (.int .i64 er)).setCell ⟨rb, 7, none⟩ (.int .i64 p)).cell? ⟨rb, 6, none⟩ = some (.int .i64 er) ∧ ((w.setCell ⟨rb, 6, none⟩ (.int .i64 er)).setCell ⟨rb, 7, none⟩ (.int .i64 p)).cell? ⟨rb, 7, none⟩ = some (.int .i64 p) :=
  ⟨(cell?_setCell_ne _ _ _ _ _ (by decide)).trans (World.cell?_setCell_same _ _ _ h.c6), World.cell?_setCell_same _ _ _ ((cell?_setCell_ne _ _ _ _ _ (by decide)).trans h.c7)⟩
end

/-! ### Lists of lists of nodes -/
theorem rows_apart {w : World} {b1 b2 s1 s2 n1 n2 : Nat} {e1 e2 : TypeId} {v1 v2 : Value} {x1 x2 : List Value} (h1 : w.ownsRow b1 e1 s1 v1 n1 x1) (h2 : w.ownsRow b2 e2 s2 v2 n2 x2) (hne : e1 ≠ e2) : ∀ g, v1.ownBlock = some g → some g ≠ v2.ownBlock := by
  intro g hg he
  rcases h1.2 with ⟨rfl, _⟩ | ⟨g1, c1, cur1, rfl, _, hh1, _⟩
  · cases hg
  rcases h2.2 with ⟨rfl, _⟩ | ⟨g2, c2, cur2, rfl, _, hh2, _⟩
  · cases he
  simp only [Value.ownBlock, Option.some.injEq] at hg he
  subst hg
  subst he
  rw [hh1] at hh2
  simp only [Option.some.injEq, Obj.cells.injEq] at hh2
  exact hne hh2.2.1
theorem nd_bool : (39 : TypeId) ≠ 4 := by decide
theorem ll_bool : (22 : TypeId) ≠ 4 := by decide
theorem nd_ll : (39 : TypeId) ≠ 22 := by decide
/-- A list of lists of nodes of the call's own. -/
structure NdLL (w : World) (base : Nat) (v : Value) (ls : List (List Nd)) (vs : List Value) : Prop where
  row : w.ownsRow base 22 1 v ls.length vs
  el : ∀ i (h : i < ls.length), ∃ u, vs[i]? = some u ∧ Nds w base u ls[i]
theorem NdLL.nil (w : World) (base : Nat) : NdLL w base (.slice none 0 0) [] [] := ⟨World.ownsRow_nil _ _ _ _, fun i h => by simp at h⟩
theorem NdLL.block {w w' : World} {base : Nat} {v : Value} {ls : List (List Nd)} {vs : List Value} (h : NdLL w base v ls vs) (hb : ∀ g, base ≤ g → g < w.heap.size → w'.heap[g]? = w.heap[g]?) : NdLL w' base v ls vs :=
  ⟨ownsRow_of_block h.row fun g hg => hb g (h.row.lt g hg).1 (h.row.lt g hg).2, fun i hi => by obtain ⟨u, h1, h2⟩ := h.el i hi; exact ⟨u, h1, h2.block fun g hg => hb g (h2.lt g hg).1 (h2.lt g hg).2⟩⟩
theorem NdLL.below {w w' : World} {base : Nat} {v : Value} {ls : List (List Nd)} {vs : List Value} (h : NdLL w base v ls vs) (hb : Below w.heap.size w w') : NdLL w' base v ls vs := h.block fun g _ hg => hb.block g hg
theorem NdLL.mono {w : World} {base base' : Nat} {v : Value} {ls : List (List Nd)} {vs : List Value} (h : NdLL w base v ls vs) (hb : base' ≤ base) : NdLL w base' v ls vs :=
  ⟨ownsRow_mono h.row hb, fun i hi => by obtain ⟨u, h1, h2⟩ := h.el i hi; exact ⟨u, h1, h2.mono hb⟩⟩
/-- Beside what a part of the document's reader does. -/
theorem NdLL.part {w w' : World} {rb base : Nat} {ev : Value} {n : Nat} {xs : List Value} {v : Value} {ls : List (List Nd)} {vs : List Value} (h : NdLL w base v ls vs) {b2 : Nat} (ho : w.ownsRow b2 4 1 ev n xs) (hb : RBut rb ev.ownBlock w w') (hr : rb < base) : NdLL w' base v ls vs :=
  ⟨ownsRow_but h.row hb hr (rows_apart h.row ho ll_bool), fun i hi => by obtain ⟨u, h1, h2⟩ := h.el i hi; exact ⟨u, h1, h2.but hb hr (rows_apart h2 ho nd_bool)⟩⟩
theorem Nds.part {w w' : World} {rb base : Nat} {ev : Value} {n : Nat} {xs : List Value} {v : Value} {re : List Nd} (h : Nds w base v re) {b2 : Nat} (ho : w.ownsRow b2 4 1 ev n xs) (hb : RBut rb ev.ownBlock w w') (hr : rb < base) : Nds w' base v re :=
  h.but hb hr (rows_apart h ho nd_bool)
/-- One list more. -/
theorem NdLL.push {w w' : World} {base : Nat} {v v' u : Value} {ls : List (List Nd)} {l : List Nd} {vs : List Value} (h : NdLL w base v ls vs) (hu : Nds w base u l) (ho : w'.ownsRow base 22 1 v' (ls.length + 1) (vs ++ [u])) (hg : w.grownBy w' v.ownBlock) : NdLL w' base v' (ls ++ [l]) (vs ++ [u]) := by
  have hvl : vs.length = ls.length := by have := h.row.1; omega
  have keep : ∀ {x : Value} {r : List Nd}, Nds w base x r → Nds w' base x r := fun hx => hx.block fun g hgx => hg.block g (hx.lt g hgx).2 (rows_apart hx h.row nd_ll g hgx)
  refine ⟨by rw [List.length_append]; exact ho, fun i hi => ?_⟩
  by_cases hlt : i < ls.length
  · obtain ⟨x, h1, h2⟩ := h.el i hlt
    exact ⟨x, by rw [List.getElem?_append_left (by omega)]; exact h1, by rw [List.getElem_append_left hlt]; exact keep h2⟩
  · obtain rfl : i = ls.length := by rw [List.length_append] at hi; simp at hi; omega
    exact ⟨u, by rw [← hvl]; simp, by simpa using keep hu⟩
/-- Lists of nodes that are handed on. -/
def KidsV (w : World) (oa : Option Addr) (ls : List (List Nd)) : Prop :=
  ∀ i (h : i < ls.length), ∃ b o u, oa = some ⟨b, o, none⟩ ∧ b < w.heap.size ∧ w.cell? ⟨b, o + i, none⟩ = some u ∧ Nds w 0 u ls[i]
theorem KidsV.below {w w' : World} {oa : Option Addr} {ls : List (List Nd)} (h : KidsV w oa ls) (hb : Below w.heap.size w w') : KidsV w' oa ls := fun i hi => by
  obtain ⟨b, o, u, h1, h2, h3, h4⟩ := h i hi
  exact ⟨b, o, u, h1, Nat.lt_of_lt_of_le h2 hb.size, (World.cell?_of_block (w := w) (a := ⟨b, o + i, none⟩) (hb.block b h2)).trans h3, h4.below hb⟩
theorem NdLL.kids {w : World} {base : Nat} {v : Value} {ls : List (List Nd)} {vs : List Value} (h : NdLL w base v ls vs) : ∃ oa cap, v = .slice oa ls.length cap ∧ KidsV w oa ls := by
  rcases h.row.2 with ⟨rfl, h0⟩ | ⟨g, cp, cur, hv, hg1, hg2, _⟩
  · exact ⟨none, 0, by rw [h0], fun i hi => by omega⟩
  · refine ⟨_, cp, hv, fun i hi => ?_⟩
    obtain ⟨u, h1, h2⟩ := h.el i hi
    have hvl : vs.length = ls.length := by have := h.row.1; omega
    have hr := h.row
    rw [hv] at hr
    have hc := World.ownsRow.cellAt hr i (by omega)
    exact ⟨g, 0, u, rfl, (Array.getElem?_eq_some_iff.1 hg2).1, by rw [Nat.zero_add, hc, h1], h2.mono (Nat.zero_le _)⟩
end Go.Proofs.YtbdjcmhfcdamiaaGreatDoor

/- The document's reader: its small functions. -/
namespace Go.Proofs.YtbdjcmhfcdamiaaGreatDoor
open Go.RowKit

/-! ### What is seen -/
theorem seesL_end (r : List Mk) : seesL r [] = true := by cases r <;> rfl
theorem sees_sign1 (L : List Mk) (i c : Nat) : seesAt L i [c] = signAt L i c := by
  unfold seesAt signAt
  by_cases h : i < L.length
  · rw [List.drop_eq_getElem_cons h, seesL, seesL_end]
    simp [markAt, List.getD_eq_getElem?_getD, h, Bool.and_comm]
  · rw [List.drop_eq_nil_of_le (by omega)]
    simp [seesL, h]
theorem sees_sign2 (L : List Mk) (i a c : Nat) : seesAt L i [a, c] = (signAt L i a && signAt L (i + 1) c) := by
  rw [← sees_sign1 L (i + 1) c]
  unfold seesAt signAt
  by_cases h : i < L.length
  · rw [List.drop_eq_getElem_cons h, seesL]
    simp [markAt, List.getD_eq_getElem?_getD, h, Bool.and_comm]
  · rw [List.drop_eq_nil_of_le (by omega)]
    simp [seesL, h]
theorem sees_sgn (ere : Bool) (L : List Mk) (i c : Nat) : seesAt L i (signB ere c) = if ere then signAt L i c else signAt L i 92 && signAt L (i + 1) c := by
  cases ere
  · simp only [signB, Bool.false_eq_true, if_false]; exact sees_sign2 L i 92 c
  · simp only [signB, if_true]; exact sees_sign1 L i c

section
variable {w : World} {rb : Nat} {ere : Bool} {mb mo cap : Nat} {L : List Mk} {i : Nat}
set_option maxRecDepth 100000 in
set_option maxHeartbeats 3200000 in
theorem ris_call (hv : RdV w rb ere mb mo cap L i) {x : Int} (k : Nat) (hx : x = k) (hk : k ≤ 8) {y : Int} (c : Nat) (hy : y = c) :
    Calls Tryz.prog 112 #[.pointer (some ⟨rb, 0, none⟩), .int .i64 x, .int .u8 y] w fun e w' => e = .returned (.bool (signAt L (i + k) c)) ∧ Below w.heap.size w w' := by
  subst hy
  have c0 := hv.c0
  have c1 := hv.c1
  have c2 := hv.c2
  have rbl := hv.hrb
  have mbl := hv.hmb
  have hL := hv.hL
  have hat := hv.hat
  have hxi : (i : Int) + x = ((i + k : Nat) : Int) := by omega
  generalize hj : i + k = j at hxi
  have hj64 : (j : Int) ≤ 4294967296 := by omega
  have hj63 : j ≤ 4294967296 := by omega
  by_cases hlt : j < L.length
  · have hlt' : (j : Int) < (L.length : Int) := by omega
    have hb := hv.hb j hlt
    have hp := hv.hp j hlt
    have HE := Lib.hid (show signAt L j c = ((markAt L j).b == c && !(markAt L j).p) by simp [signAt, hlt])
    unfold markAt at HE
    generalize L.getD j ⟨0, false⟩ = m at hb hp HE
    obtain ⟨bb, pl⟩ := m
    simp only at hb hp
    clear hv hlt hx hj hk hat
    cases pl with
    | true =>
      have HE2 := Lib.hid (show signAt L j c = false by rw [HE.out]; simp)
      clear HE
      go_enter Tryz.func112, Tryz.ntmps112
      go_wp2_with fail
      refine wp_region_segs (X := none) 46 [] [0, 1, 2, 3, 4, 5, 6, 7, 8, 9, 10, 11, 12, 13, 14, 15, 16, 17, 18, 19, 20, 21, 22, 23, 24, 25, 26, 27, 28, 29, 30, 31, 32, 33, 34, 35, 36, 37, 38, 39, 40, 41, 42, 43, 44, 45] (by kernel_rfl) (by kernel_rfl) rfl (fun _ _ _ _ _ h => h) ?_
      simp only [wpSegs, pickSegs_nil, pickOps_nil, pickOps_cons, List.getD_cons_zero, List.getD_cons_succ, List.drop_succ_cons, List.drop_nil]
      repeat (go_big_quiet_step (fail))
      refine wpQuiet_nil ?_
      go_wp2_with fail
      go_ret
      exact ⟨ret_bool HE2.out.symm, (Below.refl _ _).drew⟩
    | false =>
      by_cases hq : bb = c
      · subst hq
        have HE2 := Lib.hid (show signAt L j bb = true by rw [HE.out]; simp)
        clear HE
        go_enter Tryz.func112, Tryz.ntmps112
        go_wp2_with fail
        refine wp_region_segs (X := none) 46 [] [0, 1, 2, 3, 4, 5, 6, 7, 8, 9, 10, 11, 12, 13, 14, 15, 16, 17, 18, 19, 20, 21, 22, 23, 24, 25, 26, 27, 28, 29, 30, 31, 32, 33, 34, 35, 36, 37, 38, 39, 40, 41, 42, 43, 44, 45] (by kernel_rfl) (by kernel_rfl) rfl (fun _ _ _ _ _ h => h) ?_
        simp only [wpSegs, pickSegs_nil, pickOps_nil, pickOps_cons, List.getD_cons_zero, List.getD_cons_succ, List.drop_succ_cons, List.drop_nil]
        repeat (go_big_quiet_step (fail))
        refine wpQuiet_nil ?_
        go_wp2_with fail
        go_ret
        exact ⟨ret_bool HE2.out.symm, (Below.refl _ _).drew⟩
      · have HE2 := Lib.hid (show signAt L j c = false by rw [HE.out]; simp [hq])
        have e1 : ((bb : Int) == (c : Int)) = false := beq_eq_false_iff_ne.2 (by omega)
        clear HE
        go_enter Tryz.func112, Tryz.ntmps112
        go_wp2_with fail
        refine wp_region_segs (X := none) 46 [] [0, 1, 2, 3, 4, 5, 6, 7, 8, 9, 10, 11, 12, 13, 14, 15, 16, 17, 18, 19, 20, 21, 22, 23, 24, 25, 26, 27, 28, 29, 30, 31, 32, 33, 34, 35, 36, 37, 38, 39, 40, 41, 42, 43, 44, 45] (by kernel_rfl) (by kernel_rfl) rfl (fun _ _ _ _ _ h => h) ?_
        simp only [wpSegs, pickSegs_nil, pickOps_nil, pickOps_cons, List.getD_cons_zero, List.getD_cons_succ, List.drop_succ_cons, List.drop_nil]
        repeat (go_big_quiet_step (fail))
        refine wpQuiet_nil ?_
        go_wp2_with fail
        go_ret
        exact ⟨ret_bool HE2.out.symm, (Below.refl _ _).drew⟩
  · have hlt' : ¬ (j : Int) < (L.length : Int) := by omega
    have HE := Lib.hid (show signAt L j c = false by simp [signAt, hlt])
    clear hv hx hj hk hat
    go_enter Tryz.func112, Tryz.ntmps112
    go_wp2_with fail
    refine wp_region_segs (X := none) 46 [] [0, 1, 2, 3, 4, 5, 6, 7, 8, 9, 10, 11, 12, 13, 14, 15, 16, 17, 18, 19, 20, 21, 22, 23, 24, 25, 26, 27, 28, 29, 30, 31, 32, 33, 34, 35, 36, 37, 38, 39, 40, 41, 42, 43, 44, 45] (by kernel_rfl) (by kernel_rfl) rfl (fun _ _ _ _ _ h => h) ?_
    simp only [wpSegs, pickSegs_nil, pickOps_nil, pickOps_cons, List.getD_cons_zero, List.getD_cons_succ, List.drop_succ_cons, List.drop_nil]
    repeat (go_big_quiet_step (fail))
    refine wpQuiet_nil ?_
    go_wp2_with fail
    go_ret
    exact ⟨ret_bool HE.out.symm, (Below.refl _ _).drew⟩
set_option maxRecDepth 100000 in
set_option maxHeartbeats 1600000 in
theorem rtwo_call (hv : RdV w rb ere mb mo cap L i) {y : Int} (c : Nat) (hy : y = c) :
    Calls Tryz.prog 133 #[.pointer (some ⟨rb, 0, none⟩), .int .u8 y] w fun e w' => e = .returned (.bool (signAt L i 92 && signAt L (i + 1) c)) ∧ Below w.heap.size w w' := by
  subst hy
  go_enter Tryz.func133, Tryz.ntmps133
  go_wp2_with fail
  refine (ris_call hv 0 rfl (by omega) 92 rfl).mono ?_; rintro e w1 ⟨rfl, hb1⟩
  rw [Nat.add_zero]
  have hv1 := hv.below hb1
  have HB1 := Lib.hid hb1
  clear hb1
  cases e1 : signAt L i 92 with
  | false =>
    go_wp2_with fail
    go_ret
    exact ⟨ret_bool (by rw [e1]; rfl), HB1.out⟩
  | true =>
    go_wp2_with fail
    refine (ris_call hv1 1 rfl (by omega) c rfl).mono ?_; rintro e w2 ⟨rfl, hb2⟩
    have HB2 := Lib.hid (HB1.out.trans (hb2.mono HB1.out.size))
    clear hb2
    go_wp2_with fail
    go_ret
    exact ⟨ret_bool (by rw [e1, Bool.true_and]), HB2.out⟩
set_option maxRecDepth 100000 in
set_option maxHeartbeats 1600000 in
theorem rsign5_call (hv : RdV w rb ere mb mo cap L i) {y : Int} (c : Nat) (hy : y = c) :
    Calls Tryz.prog 110 #[.pointer (some ⟨rb, 0, none⟩), .int .u8 y] w fun e w' => e = .returned (.bool (seesAt L i (signB ere c))) ∧ Below w.heap.size w w' := by
  subst hy
  have HE := Lib.hid (sees_sgn ere L i c)
  have c0 := hv.c0
  have rbl := hv.hrb
  cases ere with
  | true =>
    go_enter Tryz.func110, Tryz.ntmps110
    go_wp2_with fail
    refine (ris_call hv 0 rfl (by omega) c rfl).mono ?_; rintro e w1 ⟨rfl, hb1⟩
    have HB1 := Lib.hid hb1
    clear hb1
    go_wp2_with fail
    go_ret
    exact ⟨ret_bool (by rw [HE.out]; rfl), HB1.out⟩
  | false =>
    go_enter Tryz.func110, Tryz.ntmps110
    go_wp2_with fail
    refine (rtwo_call hv c rfl).mono ?_; rintro e w1 ⟨rfl, hb1⟩
    have HB1 := Lib.hid hb1
    clear hb1
    go_wp2_with fail
    go_ret
    exact ⟨ret_bool (by rw [HE.out]; rfl), HB1.out⟩
set_option maxRecDepth 100000 in
set_option maxHeartbeats 1600000 in
theorem rwide_call (_rbl : rb < w.heap.size) (c0 : w.cell? ⟨rb, 0, none⟩ = some (.bool ere)) :
    Calls Tryz.prog 154 #[.pointer (some ⟨rb, 0, none⟩)] w fun e w' => e = .returned (.int .i64 (wideB ere : Nat)) ∧ w = w' := by
  cases ere with
  | true =>
    go_enter Tryz.func154, Tryz.ntmps154
    go_wp2_with fail
    go_ret
    exact ⟨rfl, rfl⟩
  | false =>
    go_enter Tryz.func154, Tryz.ntmps154
    go_wp2_with fail
    go_ret
    exact ⟨rfl, rfl⟩
set_option maxRecDepth 100000 in
set_option maxHeartbeats 1600000 in
theorem rbar_call (hv : RdV w rb ere mb mo cap L i) :
    Calls Tryz.prog 89 #[.pointer (some ⟨rb, 0, none⟩)] w fun e w' => e = .returned (.bool (ere && seesAt L i [124])) ∧ Below w.heap.size w w' := by
  have c0 := hv.c0
  have rbl := hv.hrb
  cases ere with
  | false =>
    go_enter Tryz.func89, Tryz.ntmps89
    go_wp2_with fail
    go_ret
    exact ⟨rfl, Below.refl _ _⟩
  | true =>
    have HE := Lib.hid (sees_sign1 L i 124)
    go_enter Tryz.func89, Tryz.ntmps89
    go_wp2_with fail
    refine (ris_call hv 0 rfl (by omega) 124 rfl).mono ?_; rintro e w1 ⟨rfl, hb1⟩
    have HB1 := Lib.hid hb1
    clear hb1
    go_wp2_with fail
    go_ret
    exact ⟨ret_bool (by rw [HE.out, Bool.true_and]), HB1.out⟩
set_option maxRecDepth 100000 in
set_option maxHeartbeats 3200000 in
theorem rrepeats_call (hv : RdV w rb ere mb mo cap L i) :
    Calls Tryz.prog 111 #[.pointer (some ⟨rb, 0, none⟩)] w fun e w' => e = .returned (.bool (repeatsL ere L i)) ∧ Below w.heap.size w w' := by
  have HE := Lib.hid (show repeatsL ere L i = (signAt L i 42 || ere && (signAt L i 43 || signAt L i 63) || seesAt L i (signB ere 123)) by
    rw [repeatsL, sees_sign1, sees_sign1, sees_sign1])
  go_enter Tryz.func111, Tryz.ntmps111
  go_wp2_with fail
  refine (ris_call hv 0 rfl (by omega) 42 rfl).mono ?_; rintro e w1 ⟨rfl, hb1⟩
  rw [Nat.add_zero]
  have HV1 := Lib.hid (hv.below hb1)
  have HB1 := Lib.hid hb1
  clear hb1
  have c0 := HV1.out.c0
  have rbl := HV1.out.hrb
  cases e1 : signAt L i 42 with
  | true =>
    go_wp2_with fail
    go_ret
    exact ⟨ret_bool (by rw [HE.out, e1]; rfl), HB1.out⟩
  | false =>
    cases ere with
    | false =>
      go_wp2_with fail
      refine (rsign5_call HV1.out 123 rfl).mono ?_; rintro e w2 ⟨rfl, hb2⟩
      have HB2 := Lib.hid (HB1.out.trans (hb2.mono HB1.out.size))
      clear hb2
      go_wp2_with fail
      go_ret
      exact ⟨ret_bool (by rw [HE.out, e1]; simp), HB2.out⟩
    | true =>
      go_wp2_with fail
      refine (ris_call HV1.out 0 rfl (by omega) 43 rfl).mono ?_; rintro e w2 ⟨rfl, hb2⟩
      rw [Nat.add_zero]
      have HV2 := Lib.hid (HV1.out.below hb2)
      have HB2 := Lib.hid (HB1.out.trans (hb2.mono HB1.out.size))
      clear hb2 c0 rbl
      cases e2 : signAt L i 43 with
      | true =>
        go_wp2_with fail
        go_ret
        exact ⟨ret_bool (by rw [HE.out, e1, e2]; rfl), HB2.out⟩
      | false =>
        go_wp2_with fail
        refine (ris_call HV2.out 0 rfl (by omega) 63 rfl).mono ?_; rintro e w3 ⟨rfl, hb3⟩
        rw [Nat.add_zero]
        have HV3 := Lib.hid (HV2.out.below hb3)
        have HB3 := Lib.hid (HB2.out.trans (hb3.mono HB2.out.size))
        clear hb3
        cases e3 : signAt L i 63 with
        | true =>
          go_wp2_with fail
          go_ret
          exact ⟨ret_bool (by rw [HE.out, e1, e2, e3]; rfl), HB3.out⟩
        | false =>
          go_wp2_with fail
          refine (rsign5_call HV3.out 123 rfl).mono ?_; rintro e w4 ⟨rfl, hb4⟩
          have HB4 := Lib.hid (HB3.out.trans (hb4.mono HB3.out.size))
          clear hb4
          go_wp2_with fail
          go_ret
          exact ⟨ret_bool (by rw [HE.out, e1, e2, e3]; simp), HB4.out⟩
end
/-! ### Faults -/
/-- A fault is noted; all else stays. -/
def Noted (rb er p : Nat) (w w' : World) : Prop :=
  (∀ eb w0, RBut rb eb w0 w → RBut rb eb w0 w') ∧ rb < w'.heap.size ∧ w'.cell? ⟨rb, 6, none⟩ = some (.int .i64 er) ∧ w'.cell? ⟨rb, 7, none⟩ = some (.int .i64 p)
set_option maxRecDepth 100000 in
set_option maxHeartbeats 1600000 in
theorem rfail_call {w : World} {rb : Nat} {ere : Bool} {mb mo cap : Nat} {L : List Mk} {s : Rst} {k : Nat} {ev : Value} (h : RfS w rb ere mb mo cap L s k ev) {x y : Int} (er p : Nat) (hx : x = er) (hy : y = p) :
    Calls Tryz.prog 90 #[.pointer (some ⟨rb, 0, none⟩), .int .i64 x, .int .i64 y] w fun e w' => e = .returned (.tuple #[]) ∧ Noted rb er p w w' := by
  subst hx
  subst hy
  have HN := Lib.hid (h.noted er p)
  have c6 := h.c6
  have c7 := h.c7
  have rbl := h.lt
  have f6 := h.fz 6
  have f7 := h.fz 7
  clear h
  go_enter Tryz.func90, Tryz.ntmps90
  go_wp2_with fail
  go_end0
  exact ⟨rfl, fun eb w0 hb => (hb.store 6 _).store 7 _, by simpa [World.setCell] using rbl, HN.out.1, HN.out.2⟩
theorem RPost.no {α : Type} {w w1 w' : World} {rb : Nat} {ere : Bool} {mb mo cap : Nat} {L : List Mk} {k : Nat} {ev : Value} {nil : Value} {R : α → Value → World → Prop} {o : Out α} {er p : Nat} (ho : o = .no er p) (hb : RBut rb ev.ownBlock w w1) (hn : Noted rb er p w1 w') (hne : er ≠ 0) :
    RPost w rb ere mb mo cap L k ev o nil R (.returned nil) w' := by
  subst ho
  exact ⟨hn.1 _ _ hb, rfl, hne, hn.2.1, hn.2.2.1, hn.2.2.2⟩
/-! ### Lists of nodes -/
theorem of_single {b : Nat} : Cls.of [b] = Cls.zero.set (b / 64) (bit1 (b % 64)) := by
  show Cls.zero.set (b / 64) (orw (Cls.zero.word (b / 64)) (bit1 (b % 64))) = _
  have : ∀ v : BitVec 64, orw (Cls.zero.word (b / 64)) v = v := fun v => by
    have h0 : Cls.zero.word (b / 64) = 0#64 := by
      unfold Cls.word Cls.zero
      split <;> rfl
    rw [h0, orw, BitVec.zero_or]
  rw [this]
theorem nd_set {w : World} {B : Nat} (h : w.heap[B]? = some (.cells #[.int .i8 1, .int .u64 0, .int .u64 0, .int .u64 0, .int .u64 0, .int .i64 0, .int .i64 0, .int .i64 0, .int .i64 0] 39 (0, 0))) {b : Nat} (hb : b < 256) :
    (w.setCell ⟨B, 1 + b / 64, none⟩ (.int .u64 ((bit1 (b % 64)).toNat : Nat))).heap[B]? = some (.cells (ndCells (oneN b)) 39 (0, 0)) := by
  have hj : b / 64 = 0 ∨ b / 64 = 1 ∨ b / 64 = 2 ∨ b / 64 = 3 := by omega
  rw [oneN, of_single]
  generalize bit1 (b % 64) = v
  rcases hj with hj | hj | hj | hj <;> (rw [hj]; simp [World.setCell, Array.getElem?_modify, h, ndCells, Cls.set, Cls.zero])
set_option maxRecDepth 100000 in
set_option maxHeartbeats 3200000 in
theorem rset5_call {b : Nat} (hb : b < 256) {w : World} :
    Calls Tryz.prog 137 #[.int .u8 (b : Nat)] w fun e w' => (∃ v, e = .returned v ∧ Nds w' w.heap.size v [oneN b]) ∧ Below w.heap.size w w' := by
  have h4 : (b : Int) / 64 < 4 := by omega
  have h0 : 0 ≤ (b : Int) / 64 := by omega
  have hsh := bit1_wrap (b % 64) (by omega)
  go_enter Tryz.func137, Tryz.ntmps137
  go_upto_region 2 with fail
  have hN : (w.alloc (.cells #[.int .i8 1, .int .u64 0, .int .u64 0, .int .u64 0, .int .u64 0, .int .i64 0, .int .i64 0, .int .i64 0, .int .i64 0] 39)).heap[w.heap.size]? = some (.cells #[.int .i8 1, .int .u64 0, .int .u64 0, .int .u64 0, .int .u64 0, .int .i64 0, .int .i64 0, .int .i64 0, .int .i64 0] 39 (0, 0)) := heap_alloc_new w _
  have hB : Below w.heap.size w (w.alloc (.cells #[.int .i8 1, .int .u64 0, .int .u64 0, .int .u64 0, .int .u64 0, .int .i64 0, .int .i64 0, .int .i64 0, .int .i64 0] 39)) := (by repeat (first | exact Below.refl _ _ | assumption | refine Below.drew ?_ | refine Below.alloc ?_ (by first | (simp; done) | (simp; omega) | omega) _ | refine Below.setCell ?_ (by first | (simp; done) | (simp; omega) | omega) _))
  revert hN hB
  generalize w.alloc (.cells #[.int .i8 1, .int .u64 0, .int .u64 0, .int .u64 0, .int .u64 0, .int .i64 0, .int .i64 0, .int .i64 0, .int .i64 0] 39) = wx
  intro hN hB
  have hsz : w.heap.size < wx.heap.size := (Array.getElem?_eq_some_iff.1 hN).1
  have hcell : wx.cell? ⟨w.heap.size, 1 + b / 64, none⟩ = some (.int .u64 0) := by
    rw [cell_of_row _ _ _ _ _ (0, 0) hN]
    have hj : b / 64 = 0 ∨ b / 64 = 1 ∨ b / 64 = 2 ∨ b / 64 = 3 := by omega
    rcases hj with hj | hj | hj | hj <;> (rw [hj]; rfl)
  have hfz := frozen_cls hN
  have HN := Lib.hid (nd_set hN hb)
  have HB := Lib.hid hB
  clear hN hB
  go_upto_region 3 with fail
  have hB2 : Below w.heap.size w (wx.setCell ⟨w.heap.size, 1 + b / 64, none⟩ (.int .u64 ((bit1 (b % 64)).toNat : Nat))) := HB.out.setCell (p := ⟨w.heap.size, 1 + b / 64, none⟩) (Nat.le_refl _) _
  have hN2 := HN.out
  revert hB2 hN2
  generalize wx.setCell ⟨w.heap.size, 1 + b / 64, none⟩ (.int .u64 ((bit1 (b % 64)).toNat : Nat)) = wy
  intro hB2 hN2
  clear HN HB hcell hfz hsh h4 h0 hsz
  have hsz := hB2.size
  have hyl : w.heap.size < wy.heap.size := (Array.getElem?_eq_some_iff.1 hN2).1
  have hc : ∀ k, wy.cell? ⟨w.heap.size, k, none⟩ = (ndCells (oneN b))[k]? := fun k => cell_of_row _ _ k _ _ (0, 0) hN2
  have HL := Lib.hid (Nds.lit wy w.heap.size (oneN b) hsz)
  have HB2 := Lib.hid hB2
  obtain ⟨x, hx⟩ : ∃ x, x = oneN b := ⟨_, rfl⟩
  rw [← hx] at HL hc
  have HX := Lib.hid hx
  clear hx
  obtain ⟨op, ⟨x0, x1, x2, x3⟩, xn, xmin, xmax, xk⟩ := x
  have m0 := hc 0
  have m1 := hc 1
  have m2 := hc 2
  have m3 := hc 3
  have m4 := hc 4
  have m5 := hc 5
  have m6 := hc 6
  have m7 := hc 7
  have m8 := hc 8
  simp only [ndCells, List.getElem?_toArray, List.getElem?_cons_zero, List.getElem?_cons_succ] at m0 m1 m2 m3 m4 m5 m6 m7 m8
  clear hc hN2 hB2
  go_wp2_with fail
  go_ret
  exact ⟨⟨_, rfl, by rw [← HX.out]; exact HL.out⟩, HB2.out.alloc hsz _⟩
theorem flat_take {ls : List (List Nd)} {i : Nat} (h : i < ls.length) : (ls.take (i + 1)).flatten = (ls.take i).flatten ++ ls[i] := by
  rw [List.take_add_one, List.flatten_append]
  simp [h]
theorem flat_len {ls : List (List Nd)} {i : Nat} (h : i < ls.length) : ((ls.take i).flatten ++ ls[i]).length ≤ ls.flatten.length := by
  rw [← flat_take h]
  conv => rhs; rw [← List.take_append_drop (i + 1) ls, List.flatten_append, List.length_append]
  omega
set_option maxRecDepth 100000 in
set_option maxHeartbeats 3200000 in
theorem rput_call (x : Nd) {ls : List (List Nd)} {oa : Option Addr} {cap : Nat} {w : World} (hk : KidsV w oa ls) (hn : ls.length ≤ 90000) (hs : ls.flatten.length ≤ 90000) :
    Calls Tryz.prog 92 #[ndV x, .slice oa ls.length cap] w fun e w' => (∃ v, e = .returned v ∧ Nds w' w.heap.size v (x :: ls.flatten)) ∧ Below w.heap.size w w' := by
  have HK := Lib.hid hk
  have HL := Lib.hid (Nds.lit (w.alloc (.cells (ndCells x) 39)) w.heap.size x (by simp))
  have hB : Below w.heap.size w ((w.alloc (.cells (ndCells x) 39)).alloc (.cells (ndCells x) 39)) := (by repeat (first | exact Below.refl _ _ | assumption | refine Below.drew ?_ | refine Below.alloc ?_ (by first | (simp; done) | (simp; omega) | omega) _ | refine Below.setCell ?_ (by first | (simp; done) | (simp; omega) | omega) _))
  have HB := Lib.hid hB
  clear hk hB
  obtain ⟨op, ⟨x0, x1, x2, x3⟩, xn, xmin, xmax, xk⟩ := x
  generalize hx : (⟨op, ⟨x0, x1, x2, x3⟩, xn, xmin, xmax, xk⟩ : Nd) = x at HL HB ⊢
  rw [show ndV x = .agg #[.int .i8 op, .int .u64 x0.toNat, .int .u64 x1.toNat, .int .u64 x2.toNat, .int .u64 x3.toNat, .int .i64 xn, .int .i64 xmin, .int .i64 xmax, .int .i64 xk] by rw [← hx]]
  rw [show ndCells x = #[.int .i8 op, .int .u64 x0.toNat, .int .u64 x1.toNat, .int .u64 x2.toNat, .int .u64 x3.toNat, .int .i64 xn, .int .i64 xmin, .int .i64 xmax, .int .i64 xk] by rw [← hx]; rfl] at HL HB
  clear hx
  go_enter Tryz.func92, Tryz.ntmps92
  go_upto_region 2 with fail
  revert HL HB
  simp only [World.size_alloc]
  generalize (w.alloc (.cells #[.int .i8 op, .int .u64 x0.toNat, .int .u64 x1.toNat, .int .u64 x2.toNat, .int .u64 x3.toNat, .int .i64 xn, .int .i64 xmin, .int .i64 xmax, .int .i64 xk] 39)).alloc (.cells #[.int .i8 op, .int .u64 x0.toNat, .int .u64 x1.toNat, .int .u64 x2.toNat, .int .u64 x3.toNat, .int .i64 xn, .int .i64 xmin, .int .i64 xmax, .int .i64 xk] 39) = wx
  intro HL HB
  go_wp2_with fail
  go_loopg [5, 6] ls.length (fun gk v iv wr => ∃ i : Nat, iv = .int .i64 (i : Nat) ∧ gk = ls.length - i ∧ i ≤ ls.length ∧ Nds wr w.heap.size v (x :: (ls.take i).flatten) ∧ Below w.heap.size w wr)
  case atStart => exact ⟨0, rfl, by omega, by omega, HL.out, HB.out⟩
  case round =>
    obtain ⟨i, rfl, hg, hi, hnd, hb⟩ := hrel
    have HG := Lib.hid hg
    have HN := Lib.hid hnd
    have HB := Lib.hid hb
    clear hg hnd hb
    by_cases hlt : i < ls.length
    · have hlt' : (i : Int) < (ls.length : Int) := by omega
      obtain ⟨b, o, u, rfl, hbl, hcu, hku⟩ := (HK.out.below HB.out) i hlt
      have HKU := Lib.hid hku.src
      have HFT := Lib.hid (flat_take hlt)
      have hfl := flat_len hlt
      have hlen : (x :: (ls.take i).flatten).length + ls[i].length ≤ 100000 := by
        rw [List.length_append] at hfl
        simp only [List.length_cons]
        omega
      generalize ls[i] = l at HKU HFT hlen
      obtain ⟨acc, hacc⟩ : ∃ acc, x :: (ls.take i).flatten = acc := ⟨_, rfl⟩
      have HAC := Lib.hid hacc
      rw [hacc] at HN hlen
      clear hku hfl hacc hlt
      generalize hva : u5 = va at HN ⊢
      clear hva
      go_wp2_with (at_builtin; refine wpList_nds rfl _ _ rfl w.heap.size rfl HN.out rfl HKU.out hlen HB.out.size ?_)
      intro v1 w1 hnd1 hgr1 hblk1
      have HN1 := Lib.hid (show Nds w1 w.heap.size v1 (x :: (ls.take (i + 1)).flatten) by rw [HFT.out, ← List.cons_append, HAC.out]; exact hnd1)
      have HB1 := Lib.hid (HB.out.grown hgr1 HB.out.size fun g hg => (HN.out.lt g hg).1)
      clear hnd1 hgr1 hblk1
      go_wp2_with fail
      go_roundg (ls.length - (i + 1))
      case measure => have := HG.out; omega
      case rel => exact ⟨i + 1, by go_num, rfl, by omega, HN1.out, HB1.out⟩
    · obtain rfl : i = ls.length := by omega
      have hlt' : ¬ (ls.length : Int) < (ls.length : Int) := by omega
      rw [List.take_length] at HN
      go_wp2_with fail
      go_ret
      exact ⟨⟨_, rfl, HN.out⟩, HB.out⟩
set_option maxRecDepth 100000 in
set_option maxHeartbeats 1600000 in
theorem rjoined_call {ls : List (List Nd)} {v : Value} {vs : List Value} {base : Nat} {w : World} (h : NdLL w base v ls vs) (hb : base ≤ w.heap.size) (hn : ls.length ≤ 90000) (hs : ls.flatten.length ≤ 90000) :
    Calls Tryz.prog 91 #[v] w fun e w' => (∃ u, e = .returned u ∧ Nds w' base u (if ls.length = 1 then ls.flatten else catN ls.length :: ls.flatten)) ∧ Below w.heap.size w w' := by
  obtain ⟨oa, cap, rfl, hk⟩ := h.kids
  have HK := Lib.hid hk
  have H := Lib.hid h
  clear hk h
  by_cases h1 : ls.length = 1
  · have h1' : ((ls.length : Nat) : Int) = 1 := by omega
    have h1b : (((ls.length : Nat) : Int) == 1) = true := by rw [h1']; rfl
    obtain ⟨l, rfl⟩ : ∃ l, ls = [l] := by
      match ls, h1 with
      | [l], _ => exact ⟨l, rfl⟩
    obtain ⟨b, o, u, rfl, hbl, hcu, _⟩ := HK.out 0 (by simp)
    obtain ⟨u', hu', hnd⟩ := H.out.el 0 (by simp)
    have hvl : vs.length = 1 := by have := H.out.row.1; simpa using this
    obtain ⟨_, cur, hcell⟩ : ∃ (g : Nat) (c : Nat), (⟨b, o, none⟩ : Addr) = ⟨g, 0, none⟩ := by
      rcases H.out.row.2 with ⟨h7, _⟩ | ⟨g, cp, cur, h7, _⟩
      · cases h7
      · simp only [Value.slice.injEq, Option.some.injEq] at h7
        exact ⟨g, 0, h7.1⟩
    simp only [Addr.mk.injEq, and_true] at hcell
    obtain ⟨rfl, rfl⟩ := hcell
    have hc2 := World.ownsRow.cellAt H.out.row 0 (by simp)
    rw [hu'] at hc2
    rw [Nat.add_zero] at hcu
    rw [hc2] at hcu
    cases hcu
    have HN := Lib.hid hnd
    simp only [List.getElem_cons_zero] at HN
    clear HK hu' hnd hvl
    go_enter Tryz.func91, Tryz.ntmps91
    go_wp2_with fail
    go_ret
    exact ⟨⟨_, rfl, by simpa using HN.out⟩, Below.refl _ _⟩
  · have h1' : ¬ ((ls.length : Nat) : Int) = 1 := by omega
    have h1b : (((ls.length : Nat) : Int) == 1) = false := beq_eq_false_iff_ne.2 h1'
    have HE := Lib.hid (show (if ls.length = 1 then ls.flatten else catN ls.length :: ls.flatten) = catN ls.length :: ls.flatten from if_neg h1)
    clear h1
    generalize (if ls.length = 1 then ls.flatten else catN ls.length :: ls.flatten) = R at HE ⊢
    go_enter Tryz.func91, Tryz.ntmps91
    go_wp2_with fail
    refine (rput_call (catN ls.length) (cap := cap) HK.out hn hs).mono ?_; rintro e w1 ⟨⟨u, rfl, hu⟩, hb1⟩
    have HU := Lib.hid hu
    have HB1 := Lib.hid hb1
    clear hu hb1
    go_wp2_with fail
    go_ret
    exact ⟨⟨_, rfl, by rw [HE.out]; exact HU.out.mono hb⟩, HB1.out⟩
end Go.Proofs.YtbdjcmhfcdamiaaGreatDoor

/- The document's reader: digits, interval, duplication. -/
namespace Go.Proofs.YtbdjcmhfcdamiaaGreatDoor
open Go.RowKit

section
variable {w : World} {rb : Nat} {ere : Bool} {mb mo cap : Nat} {L : List Mk} {s : Rst} {k : Nat} {ev : Value}
set_option maxRecDepth 100000 in
set_option maxHeartbeats 6400000 in
theorem rdigits_call (hv : RfS w rb ere mb mo cap L s k ev) :
    Calls Tryz.prog 156 #[.pointer (some ⟨rb, 0, none⟩)] w fun e w' => ∃ (m : Nat) (any : Bool) (j : Nat), numL L s.i = ((if any then (m : Int) else -1), j) ∧ e = .returned (.tuple #[.int .i64 (m : Nat), .bool any]) ∧ RfS w' rb ere mb mo cap L ⟨j, s.ended⟩ k ev ∧ RBut rb ev.ownBlock w w' ∧ m ≤ 256 ∧ (any = false → m = 0) ∧ s.i ≤ j ∧ j ≤ L.length := by
  have hlen := hv.m.len
  have hsi := hv.at_
  have HV := Lib.hid hv
  clear hv
  go_enter Tryz.func156, Tryz.ntmps156
  go_wp2_with fail
  go_loopg [4, 5] (L.length - s.i) (fun gk nv av wr => ∃ (m : Nat) (any : Bool) (j : Nat), nv = .int .i64 (m : Nat) ∧ av = .bool any ∧ RfS wr rb ere mb mo cap L ⟨j, s.ended⟩ k ev ∧ RBut rb ev.ownBlock w wr ∧ gk = L.length - j ∧ Hid (numL L s.i = numberL L gk (if any then (m : Int) else -1) j) ∧ m ≤ 256 ∧ (any = false → m = 0) ∧ s.i ≤ j)
  case atStart => exact ⟨0, false, s.i, rfl, rfl, HV.out, RBut.refl _ _ _, rfl, rfl, by omega, fun _ => rfl, Nat.le_refl _⟩
  case round =>
    obtain ⟨m, any, j, rfl, rfl, hr, hb, hg, HS, hm256, hm0, hsj⟩ := hrel
    have c1 := hr.c1
    have c2 := hr.c2
    have rbl := hr.lt
    have mbl := hr.m.lt
    have hj := hr.at_
    have f2 := hr.fz 2
    simp only at c2 hj
    have HR := Lib.hid hr
    have HB := Lib.hid hb
    by_cases hlt : j < L.length
    · have hlt' : (j : Int) < (L.length : Int) := by omega
      have cb := hr.m.b j hlt
      have cp := hr.m.p j hlt
      have hu := hr.m.u j hlt
      clear hr hb
      obtain ⟨mk, hmk⟩ : ∃ mk, markAt L j = mk := ⟨_, rfl⟩
      rw [hmk] at cb cp hu
      have HM := Lib.hid hmk
      clear hmk
      obtain ⟨bb, pl⟩ := mk
      simp only at cb cp hu
      cases pl with
      | true =>
        have HE := Lib.hid (show numL L s.i = ((if any then (m : Int) else -1), j) by rw [HS.out, hg, show L.length - j = (L.length - j - 1) + 1 by omega, numberL, if_neg (by omega), if_pos (by simp [HM.out])])
        have HG := Lib.hid hg
        clear HS hg
        go_wp2_with fail
        refine wp_region_segs (X := none) 52 [] [0, 1, 2, 3, 4, 5, 6, 7, 8, 9, 10, 11, 12, 13, 14, 15, 16, 17, 18, 19, 20, 21, 22, 23, 24, 25, 26, 27, 28, 29, 30, 31, 32, 33, 34, 35, 36, 37, 38, 39, 40, 41, 42, 43, 44, 45, 46, 47, 48, 49, 50, 51] (by kernel_rfl) (by kernel_rfl) rfl (fun _ _ _ _ _ h => h) ?_
        simp only [wpSegs, pickSegs_nil, pickOps_nil, pickOps_cons, List.getD_cons_zero, List.getD_cons_succ, List.drop_succ_cons, List.drop_nil]
        repeat (go_big_quiet_step (fail))
        refine wpQuiet_nil ?_
        go_wp2_with fail
        go_ret2
        exact ⟨m, any, j, HE.out, rfl, HR.out.drew, HB.out.drew, hm256, hm0, hsj, hj⟩
      | false =>
        by_cases hlo : bb < 48
        · have hlo' : decide ((48 : Int) ≤ (bb : Int)) = false := decide_eq_false (by omega)
          have HLO := Lib.hid hlo
          clear hlo
          have HE := Lib.hid (show numL L s.i = ((if any then (m : Int) else -1), j) by rw [HS.out, hg, show L.length - j = (L.length - j - 1) + 1 by omega, numberL, if_neg (by omega), if_pos (by simp [HM.out, HLO.out])])
          have HG := Lib.hid hg
          clear HS hg
          go_wp2_with fail
          refine wp_region_segs (X := none) 52 [] [0, 1, 2, 3, 4, 5, 6, 7, 8, 9, 10, 11, 12, 13, 14, 15, 16, 17, 18, 19, 20, 21, 22, 23, 24, 25, 26, 27, 28, 29, 30, 31, 32, 33, 34, 35, 36, 37, 38, 39, 40, 41, 42, 43, 44, 45, 46, 47, 48, 49, 50, 51] (by kernel_rfl) (by kernel_rfl) rfl (fun _ _ _ _ _ h => h) ?_
          simp only [wpSegs, pickSegs_nil, pickOps_nil, pickOps_cons, List.getD_cons_zero, List.getD_cons_succ, List.drop_succ_cons, List.drop_nil]
          repeat (go_big_quiet_step (fail))
          refine wpQuiet_nil ?_
          go_wp2_with fail
          go_ret2
          exact ⟨m, any, j, HE.out, rfl, HR.out.drew, HB.out.drew, hm256, hm0, hsj, hj⟩
        · by_cases hhi : 57 < bb
          · have hlo' : (48 : Int) ≤ (bb : Int) := by omega
            have hhi' : ¬ (bb : Int) ≤ 57 := by omega
            have HHI := Lib.hid hhi
            clear hlo hhi
            have HE := Lib.hid (show numL L s.i = ((if any then (m : Int) else -1), j) by rw [HS.out, hg, show L.length - j = (L.length - j - 1) + 1 by omega, numberL, if_neg (by omega), if_pos (by simp [HM.out, HHI.out])])
            have HG := Lib.hid hg
            clear HS hg
            go_wp2_with fail
            refine wp_region_segs (X := none) 52 [] [0, 1, 2, 3, 4, 5, 6, 7, 8, 9, 10, 11, 12, 13, 14, 15, 16, 17, 18, 19, 20, 21, 22, 23, 24, 25, 26, 27, 28, 29, 30, 31, 32, 33, 34, 35, 36, 37, 38, 39, 40, 41, 42, 43, 44, 45, 46, 47, 48, 49, 50, 51] (by kernel_rfl) (by kernel_rfl) rfl (fun _ _ _ _ _ h => h) ?_
            simp only [wpSegs, pickSegs_nil, pickOps_nil, pickOps_cons, List.getD_cons_zero, List.getD_cons_succ, List.drop_succ_cons, List.drop_nil]
            repeat (go_big_quiet_step (fail))
            refine wpQuiet_nil ?_
            go_wp2_with fail
            go_ret2
            exact ⟨m, any, j, HE.out, rfl, HR.out.drew, HB.out.drew, hm256, hm0, hsj, hj⟩
          · have hlo' : (48 : Int) ≤ (bb : Int) := by omega
            have hhi' : (bb : Int) ≤ 57 := by omega
            obtain ⟨d, hd⟩ : ∃ d, d = bb - 48 := ⟨_, rfl⟩
            have hdi : (bb : Int) - 48 = (d : Int) := by omega
            have hd9 : d ≤ 9 := by omega
            by_cases q : 256 < 10 * m + d
            · have q' : (256 : Int) < 10 * (m : Int) + (d : Int) := by omega
              have HE := Lib.hid (show numL L s.i = numberL L (L.length - (j + 1)) ((256 : Nat) : Int) (j + 1) by
                rw [HS.out, hg, show L.length - j = (L.length - (j + 1)) + 1 by omega, numberL, if_neg (by omega), if_neg (by simp [HM.out]; omega), HM.out]
                show numberL L _ (min (max (if any = true then (m : Int) else -1) 0 * 10 + ((bb : Int) - 48)) 256) _ = _
                congr 1
                rw [show max (if any = true then (m : Int) else -1) 0 = (m : Int) by cases any with | true => (simp) | false => (have := hm0 rfl; subst this; rfl)]
                rw [Int.min_def]
                split <;> omega)
              have HG := Lib.hid hg
              clear HS hg
              go_wp2_with fail
              refine wp_region_segs (X := none) 52 [] [0, 1, 2, 3, 4, 5, 6, 7, 8, 9, 10, 11, 12, 13, 14, 15, 16, 17, 18, 19, 20, 21, 22, 23, 24, 25, 26, 27, 28, 29, 30, 31, 32, 33, 34, 35, 36, 37, 38, 39, 40, 41, 42, 43, 44, 45, 46, 47, 48, 49, 50, 51] (by kernel_rfl) (by kernel_rfl) rfl (fun _ _ _ _ _ h => h) ?_
              simp only [wpSegs, pickSegs_nil, pickOps_nil, pickOps_cons, List.getD_cons_zero, List.getD_cons_succ, List.drop_succ_cons, List.drop_nil]
              repeat (go_big_quiet_step (fail))
              refine wpQuiet_nil ?_
              go_wp2_with fail
              refine wp_region_segs (X := none) 18 [] [0, 1, 2, 3, 4, 5, 6, 7, 8, 9, 10, 11, 12, 13, 14, 15, 16, 17] (by kernel_rfl) (by kernel_rfl) rfl (fun _ _ _ _ _ h => h) ?_
              simp only [wpSegs, pickSegs_nil, pickOps_nil, pickOps_cons, List.getD_cons_zero, List.getD_cons_succ, List.drop_succ_cons, List.drop_nil]
              repeat (go_big_quiet_step (fail))
              refine wpQuiet_nil ?_
              go_wp2_with fail
              have hrZ := (HR.out.drew.drew).setAt (j := j + 1) hlt
              have hbZ := (HB.out.drew.drew).store 2 (.int .i64 ((j + 1 : Nat) : Int))
              rw [Int.natCast_add, show ((1 : Nat) : Int) = 1 from rfl] at hrZ hbZ
              go_roundg (L.length - (j + 1))
              case measure => have := HG.out; omega
              case rel => exact ⟨256, true, j + 1, by go_num, rfl, hrZ, hbZ, rfl, HE.out, by omega, (fun h => by cases h), by omega⟩
            · have q' : ¬ (256 : Int) < 10 * (m : Int) + (d : Int) := by omega
              have q2 : 10 * (m : Int) + (d : Int) ≤ 256 := by omega
              have HE := Lib.hid (show numL L s.i = numberL L (L.length - (j + 1)) ((10 * m + d : Nat) : Int) (j + 1) by
                rw [HS.out, hg, show L.length - j = (L.length - (j + 1)) + 1 by omega, numberL, if_neg (by omega), if_neg (by simp [HM.out]; omega), HM.out]
                show numberL L _ (min (max (if any = true then (m : Int) else -1) 0 * 10 + ((bb : Int) - 48)) 256) _ = _
                congr 1
                rw [show max (if any = true then (m : Int) else -1) 0 = (m : Int) by cases any with | true => (simp) | false => (have := hm0 rfl; subst this; rfl)]
                rw [Int.min_def]
                split <;> omega)
              have HG := Lib.hid hg
              clear HS hg
              go_wp2_with fail
              refine wp_region_segs (X := none) 52 [] [0, 1, 2, 3, 4, 5, 6, 7, 8, 9, 10, 11, 12, 13, 14, 15, 16, 17, 18, 19, 20, 21, 22, 23, 24, 25, 26, 27, 28, 29, 30, 31, 32, 33, 34, 35, 36, 37, 38, 39, 40, 41, 42, 43, 44, 45, 46, 47, 48, 49, 50, 51] (by kernel_rfl) (by kernel_rfl) rfl (fun _ _ _ _ _ h => h) ?_
              simp only [wpSegs, pickSegs_nil, pickOps_nil, pickOps_cons, List.getD_cons_zero, List.getD_cons_succ, List.drop_succ_cons, List.drop_nil]
              repeat (go_big_quiet_step (fail))
              refine wpQuiet_nil ?_
              go_wp2_with fail
              refine wp_region_segs (X := none) 18 [] [0, 1, 2, 3, 4, 5, 6, 7, 8, 9, 10, 11, 12, 13, 14, 15, 16, 17] (by kernel_rfl) (by kernel_rfl) rfl (fun _ _ _ _ _ h => h) ?_
              simp only [wpSegs, pickSegs_nil, pickOps_nil, pickOps_cons, List.getD_cons_zero, List.getD_cons_succ, List.drop_succ_cons, List.drop_nil]
              repeat (go_big_quiet_step (fail))
              refine wpQuiet_nil ?_
              go_wp2_with fail
              have hrZ := (HR.out.drew.drew).setAt (j := j + 1) hlt
              have hbZ := (HB.out.drew.drew).store 2 (.int .i64 ((j + 1 : Nat) : Int))
              rw [Int.natCast_add, show ((1 : Nat) : Int) = 1 from rfl] at hrZ hbZ
              go_roundg (L.length - (j + 1))
              case measure => have := HG.out; omega
              case rel => exact ⟨10 * m + d, true, j + 1, by go_num, rfl, hrZ, hbZ, rfl, HE.out, by omega, (fun h => by cases h), by omega⟩
    · have hlt' : ¬ (j : Int) < (L.length : Int) := by omega
      have HE := Lib.hid (show numL L s.i = ((if any then (m : Int) else -1), j) by rw [HS.out, hg, show L.length - j = 0 by omega, numberL])
      clear hr hb HS hg
      go_wp2_with fail
      refine wp_region_segs (X := none) 52 [] [0, 1, 2, 3, 4, 5, 6, 7, 8, 9, 10, 11, 12, 13, 14, 15, 16, 17, 18, 19, 20, 21, 22, 23, 24, 25, 26, 27, 28, 29, 30, 31, 32, 33, 34, 35, 36, 37, 38, 39, 40, 41, 42, 43, 44, 45, 46, 47, 48, 49, 50, 51] (by kernel_rfl) (by kernel_rfl) rfl (fun _ _ _ _ _ h => h) ?_
      simp only [wpSegs, pickSegs_nil, pickOps_nil, pickOps_cons, List.getD_cons_zero, List.getD_cons_succ, List.drop_succ_cons, List.drop_nil]
      repeat (go_big_quiet_step (fail))
      refine wpQuiet_nil ?_
      go_wp2_with fail
      go_ret2
      exact ⟨m, any, j, HE.out, rfl, HR.out.drew, HB.out.drew, hm256, hm0, hsj, hj⟩

theorem RBut.belowK {rb : Nat} {eb : Option Nat} {w0 w W : World} (h : RBut rb eb w0 w) {k : Nat} (hk : w0.heap.size ≤ k) (hb : Below k w W) : RBut rb eb w0 W :=
  ⟨hb.os.trans h.os, hb.tape.trans h.tape, hb.output.trans h.output, Nat.le_trans h.size hb.size, fun i hi h1 h2 => (hb.block i (by omega)).trans (h.block i hi h1 h2)⟩
theorem RfS.belowK {w W : World} (h : RfS w rb ere mb mo cap L s k ev) {j : Nat} (hb : Below j w W) (hr : rb < j) (he : ∀ g, ev.ownBlock = some g → g < j) : RfS W rb ere mb mo cap L s k ev :=
  h.block (fun g hg => hb.block g (he g hg)) (hb.block rb hr) (hb.block mb (by have := h.mlt; omega)) hb.size
theorem Noted.belowK {rb er p : Nat} {w w' W : World} (h : Noted rb er p w w') {j : Nat} (hb : Below j w' W) (hr : rb < j) (w0 : World) (eb : Option Nat) (hw : RBut rb eb w0 w) (hj : w0.heap.size ≤ j) : RBut rb eb w0 W ∧ rb < W.heap.size ∧ W.cell? ⟨rb, 6, none⟩ = some (.int .i64 er) ∧ W.cell? ⟨rb, 7, none⟩ = some (.int .i64 p) :=
  ⟨(h.1 _ _ hw).belowK hj hb, Nat.lt_of_lt_of_le h.2.1 hb.size, (World.cell?_of_block (a := ⟨rb, 6, none⟩) (hb.block rb hr)).trans h.2.2.1, (World.cell?_of_block (a := ⟨rb, 7, none⟩) (hb.block rb hr)).trans h.2.2.2⟩
theorem ret_nd2 {fn : Func} {p : Tmp} (h : fn.results = #[.cell p 39]) {a : Act} {w W : World} {B : Nat} {s0 s1 s2 s3 s4 s5 s6 s7 s8 : Int} {Q : Ending → World → Prop}
    (ha : a.tmps.getD p undef = .pointer (some ⟨B, 0, none⟩)) (hd : a.defers = []) (his : isNd w B) (hW : W.heap[B]? = (setNd w B s0 s1 s2 s3 s4 s5 s6 s7 s8).heap[B]?)
    (hq : Q (.returned (.agg #[.int .i8 s0, .int .u64 s1, .int .u64 s2, .int .u64 s3, .int .u64 s4, .int .i64 s5, .int .i64 s6, .int .i64 s7, .int .i64 s8])) W) :
    bodyPost Tryz.prog fn Q .ret a W := by
  refine bodyPost_ret (v := .agg #[.int .i8 s0, .int .u64 s1, .int .u64 s2, .int .u64 s3, .int .u64 s4, .int .i64 s5, .int .i64 s6, .int .i64 s7, .int .i64 s8]) ?_ hd hq
  rw [results_cell1 h, ha]
  simp [asAddr, load_row9 (hW.trans (setNd_at his s0 s1 s2 s3 s4 s5 s6 s7 s8)), Result.andThen]
set_option maxRecDepth 100000 in
set_option maxHeartbeats 12800000 in
theorem rinterval_call (hv : RfS w rb ere mb mo cap L s k ev) (hs : s.i + wideB ere ≤ L.length) :
    Calls Tryz.prog 138 #[.pointer (some ⟨rb, 0, none⟩)] w (RPost w rb ere mb mo cap L k ev (intervalL ere L s) (ndV Nd.zero) fun a v _ => v = ndV (repN a.1 a.2)) := by
  have hlen := hv.m.len
  have hw := wideB_le ere
  have hrw := hv.lt
  have HEV := Lib.hid hv.evlt
  have HV := Lib.hid hv
  clear hv
  go_enter Tryz.func138, Tryz.ntmps138
  go_upto_region 1 with fail
  have hN : isNd (w.alloc (.cells #[.int .i8 0, .int .u64 0, .int .u64 0, .int .u64 0, .int .u64 0, .int .i64 0, .int .i64 0, .int .i64 0, .int .i64 0] 39)) w.heap.size := ⟨_, rfl, heap_alloc_new w _⟩
  have hal : Below w.heap.size w (w.alloc (.cells #[.int .i8 0, .int .u64 0, .int .u64 0, .int .u64 0, .int .u64 0, .int .i64 0, .int .i64 0, .int .i64 0, .int .i64 0] 39)) := (by repeat (first | exact Below.refl _ _ | assumption | refine Below.drew ?_ | refine Below.alloc ?_ (by first | (simp; done) | (simp; omega) | omega) _ | refine Below.setCell ?_ (by first | (simp; done) | (simp; omega) | omega) _))
  revert hN hal
  generalize w.alloc (.cells #[.int .i8 0, .int .u64 0, .int .u64 0, .int .u64 0, .int .u64 0, .int .i64 0, .int .i64 0, .int .i64 0, .int .i64 0] 39) = wx
  intro hN hal
  have hvx := HV.out.below hal
  have HB0 := Lib.hid (RBut.of_below (rb := rb) (eb := ev.ownBlock) hal)
  have HN0 := Lib.hid hN
  have hszx := hN.lt
  have c0 := hvx.c0
  have c2 := hvx.c2
  have rbl := hvx.lt
  have f2 := hvx.fz 2
  clear hal hN
  go_wp2_with fail
  refine wp_region_segs (X := none) 10 [([0, 1, 2, 3, 4, 5], 6)] [7, 8, 9] (by kernel_rfl) (by kernel_rfl) rfl (fun _ _ _ _ _ h => h) ?_
  simp only [wpSegs, pickSegs_nil, pickSegs_cons, pickOps_nil, pickOps_cons, List.getD_cons_zero, List.getD_cons_succ, List.drop_succ_cons, List.drop_zero]
  repeat (go_big_quiet_step (fail))
  refine wpQuiet_nil ?_
  go_wp2_with fail
  refine (rwide_call (w := wx.drew) rbl c0).mono ?_; rintro e w1 ⟨rfl, rfl⟩
  go_wp2_with fail
  refine ⟨Keeps.refl _, ?_⟩
  repeat (go_big_quiet_step (fail))
  refine wpQuiet_nil ?_
  go_wp2_with fail
  have hr1 := (hvx.setAt hs).drew
  have hb1 := (HB0.out.store 2 (.int .i64 ((s.i + wideB ere : Nat) : Int))).drew
  have hn1 : isNd ((wx.setCell ⟨rb, 2, none⟩ (.int .i64 ((s.i + wideB ere : Nat) : Int))).drew) w.heap.size := by
    obtain ⟨cs, h1, h2⟩ := HN0.out
    exact ⟨cs, h1, (Below.heap_setCell _ _ _ _ (by show w.heap.size ≠ rb; omega)).trans h2⟩
  rw [Int.natCast_add] at hr1 hb1 hn1
  have HIL := Lib.hid (intervalL_eq ere L s)
  clear hvx HB0 HN0 c0 c2 rbl f2 hszx
  refine (rdigits_call hr1).mono ?_; rintro e w2 ⟨m, any, p, hnum, rfl, hr2, hb2, hm256, hm0, hsp, hpl⟩
  have HR2 := Lib.hid hr2
  have HB2 := Lib.hid (hb1.trans (.inl rfl) hb2)
  have HN2 := Lib.hid (show isNd w2 w.heap.size from by
    obtain ⟨cs, h1, h2⟩ := hn1
    exact ⟨cs, h1, (hb2.block _ (isNd.lt ⟨cs, h1, h2⟩) (by omega) (fun e => by have := HEV.out _ e.symm; omega)).trans h2⟩)
  simp only at HIL hsp
  rw [hnum] at HIL
  have HM0 := Lib.hid hm0
  clear hr1 hb1 hn1 hr2 hb2 hnum hm0 HV
  obtain ⟨cm, hcm⟩ : ∃ b, signAt L p 44 = b := ⟨_, rfl⟩
  have HCM := Lib.hid hcm
  have HCS := Lib.hid ((sees_sign1 L p 44).trans hcm)
  have hcl : cm = true → p + 1 ≤ L.length := fun h => by rw [h] at hcm; exact signAt_lt hcm
  clear hcm
  go_wp2_with fail
  refine (ris_call HR2.out.v 0 rfl (by omega) 44 rfl).mono ?_; rintro e w3 ⟨rfl, hb3⟩
  rw [Nat.add_zero, HCM.out]
  have HR3 := Lib.hid (HR2.out.below hb3)
  have HB3 := Lib.hid (HB2.out.below hb3)
  have HN3 := Lib.hid (HN2.out.below hb3)
  clear hb3 HR2 HB2 HN2
  have c2 := HR3.out.c2
  have rbl := HR3.out.lt
  have f2 := HR3.out.fz 2
  simp only at c2
  go_upto_if 30 with fail
  go_cut [6] (fun x wd => ∃ (hi' hi : Int) (q : Nat), x = .int .i64 hi ∧ RfS wd rb ere mb mo cap L ⟨q, s.ended⟩ k ev ∧ RBut rb ev.ownBlock w wd ∧ isNd wd w.heap.size ∧ Hid (intervalL ere L s = intervalE ere L s (if any then (m : Int) else -1) hi' q) ∧ (any = true → hi' = hi) ∧ -1 ≤ hi ∧ hi ≤ 256 ∧ q ≤ L.length)
  case first =>
    cases cm with
    | false =>
      go_wp2_with fail
      go_meet
      exact ⟨(if any then (m : Int) else -1), (m : Int), p, rfl, HR3.out, HB3.out, HN3.out, (show intervalL ere L s = _ by rw [HIL.out, HCS.out]; rfl), (fun h => by rw [h]; rfl), by omega, by omega, hpl⟩
    | true =>
      have hcl2 := hcl rfl
      have hr4 := HR3.out.setAt (j := p + 1) hcl2
      have hb4 := HB3.out.store 2 (.int .i64 ((p + 1 : Nat) : Int))
      have hn4 : isNd (w3.setCell ⟨rb, 2, none⟩ (.int .i64 ((p + 1 : Nat) : Int))) w.heap.size := by
        obtain ⟨cs, h1, h2⟩ := HN3.out
        exact ⟨cs, h1, (Below.heap_setCell _ _ _ _ (by show w.heap.size ≠ rb; omega)).trans h2⟩
      rw [Int.natCast_add, show ((1 : Nat) : Int) = 1 from rfl] at hr4 hb4 hn4
      go_wp2_with fail
      refine (rdigits_call hr4).mono ?_; rintro e w5 ⟨m2, any2, p2, hnum2, rfl, hr5, hb5, hm2, hm02, hsp2, hpl2⟩
      have HR5 := Lib.hid hr5
      have HB5 := Lib.hid (hb4.trans (.inl rfl) hb5)
      have HN5 := Lib.hid (show isNd w5 w.heap.size from by
        obtain ⟨cs, h1, h2⟩ := hn4
        exact ⟨cs, h1, (hb5.block _ (isNd.lt ⟨cs, h1, h2⟩) (by omega) (fun e => by have := HEV.out _ e.symm; omega)).trans h2⟩)
      have HI2 := Lib.hid (show intervalL ere L s = intervalE ere L s (if any then (m : Int) else -1) (if any2 then (m2 : Int) else -1) p2 by
        rw [HIL.out, if_pos HCS.out]
        simp only at hnum2
        rw [hnum2])
      clear hr4 hb4 hn4 hr5 hb5 hnum2 HIL hm02 HR3 HB3 HN3
      cases any2 with
      | true =>
        go_wp2_with fail
        go_meet
        exact ⟨(m2 : Int), (m2 : Int), p2, rfl, HR5.out, HB5.out, HN5.out, HI2.out, (fun _ => rfl), by omega, by omega, hpl2⟩
      | false =>
        go_wp2_with fail
        go_meet
        exact ⟨-1, -1, p2, rfl, HR5.out, HB5.out, HN5.out, HI2.out, (fun _ => rfl), by omega, by omega, hpl2⟩
  case rest =>
    obtain ⟨hi', hi, q, rfl, hr, hb, hn, HIE, hh, hlo, hhi, hql⟩ := hcut
    have HR := Lib.hid hr
    have HB := Lib.hid hb
    have HN := Lib.hid hn
    clear hr hb hn HR3 HB3 HN3 HIL c2 rbl f2 hcl
    go_upto_region 11 with fail
    go_cut [68] (fun x wd => ∃ bad : Bool, x = .bool bad ∧ Hid (intervalL ere L s = if bad then .no 43 s.i else .ok ((m : Int), hi) ⟨q + wideB ere, s.ended⟩) ∧ (bad = false → q + wideB ere ≤ L.length) ∧ RfS wd rb ere mb mo cap L ⟨q, s.ended⟩ k ev ∧ RBut rb ev.ownBlock w wd ∧ isNd wd w.heap.size)
    case first =>
      cases any with
      | false =>
        have HE := Lib.hid (show intervalL ere L s = .no 43 s.i by rw [HIE.out, intervalE, if_pos (by simp)])
        clear HIE
        go_wp2_with fail
        go_meet
        exact ⟨true, rfl, HE.out, (fun h => by cases h), HR.out, HB.out, HN.out⟩
      | true =>
        have h5 := hh rfl
        subst h5
        rw [show (if true = true then (m : Int) else -1) = (m : Int) from rfl] at HIE
        by_cases q1 : 255 < m
        · have q1' : (255 : Int) < (m : Int) := by omega
          have HE := Lib.hid (show intervalL ere L s = .no 43 s.i by rw [HIE.out, intervalE, if_pos (by simp [q1'])])
          clear HIE
          go_wp2_with fail
          go_meet
          exact ⟨true, rfl, HE.out, (fun h => by cases h), HR.out, HB.out, HN.out⟩
        · have q1' : ¬ (255 : Int) < (m : Int) := by omega
          by_cases q2 : (255 : Int) < hi'
          · skip
            have HE := Lib.hid (show intervalL ere L s = .no 43 s.i by rw [HIE.out, intervalE, if_pos (by simp [q2])])
            clear HIE
            go_wp2_with fail
            go_meet
            exact ⟨true, rfl, HE.out, (fun h => by cases h), HR.out, HB.out, HN.out⟩
          · have q3d : (0 : Int) ≤ hi' ∧ hi' < (m : Int) ∨ ¬ ((0 : Int) ≤ hi' ∧ hi' < (m : Int)) := Decidable.em _
            rcases q3d with ⟨q3, q4⟩ | q3
            · skip
              have HE := Lib.hid (show intervalL ere L s = .no 43 s.i by rw [HIE.out, intervalE, if_pos (by simp [q3, q4])])
              clear HIE
              go_wp2_with fail
              go_meet
              exact ⟨true, rfl, HE.out, (fun h => by cases h), HR.out, HB.out, HN.out⟩
            · obtain ⟨sg, hsg⟩ : ∃ b, seesAt L q (signB ere 125) = b := ⟨_, rfl⟩
              have HSG := Lib.hid hsg
              have hle : sg = true → q + wideB ere ≤ L.length := fun h => by rw [h] at hsg; exact seesSign_le hsg
              have HE := Lib.hid (show intervalL ere L s = if !sg then .no 43 s.i else .ok ((m : Int), hi') ⟨q + wideB ere, s.ended⟩ by
                rw [HIE.out, intervalE, hsg]
                have e1 : decide ((m : Int) < 0) = false := decide_eq_false (by omega)
                have e2 : decide ((255 : Int) < (m : Int)) = false := decide_eq_false q1'
                have e3 : decide ((255 : Int) < hi') = false := decide_eq_false q2
                have e4 : (decide ((0 : Int) ≤ hi') && decide (hi' < (m : Int))) = false := by
                  rw [Bool.and_eq_false_iff]
                  by_cases h0 : (0 : Int) ≤ hi'
                  · exact .inr (decide_eq_false fun h => q3 ⟨h0, h⟩)
                  · exact .inl (decide_eq_false h0)
                rw [e1, e2, e3, e4]; simp)
              clear hsg HIE
              by_cases q4 : (0 : Int) ≤ hi'
              · have q5 : ¬ hi' < (m : Int) := fun h => q3 ⟨q4, h⟩
                clear q3
                go_wp2_with fail
                refine (rsign5_call HR.out.v 125 rfl).mono ?_; rintro e w6 ⟨rfl, hb6⟩
                rw [HSG.out]
                have HR6 := Lib.hid (HR.out.below hb6)
                have HB6 := Lib.hid (HB.out.below hb6)
                have HNX := Lib.hid (HN.out.below hb6)
                clear hb6
                go_wp2_with fail
                go_meet
                exact ⟨!sg, by cases sg <;> rfl, HE.out, (fun h => hle (by simpa using h)), HR6.out, HB6.out, HNX.out⟩
              · clear q3
                go_wp2_with fail
                refine (rsign5_call HR.out.v 125 rfl).mono ?_; rintro e w6 ⟨rfl, hb6⟩
                rw [HSG.out]
                have HR6 := Lib.hid (HR.out.below hb6)
                have HB6 := Lib.hid (HB.out.below hb6)
                have HNX := Lib.hid (HN.out.below hb6)
                clear hb6
                go_wp2_with fail
                go_meet
                exact ⟨!sg, by cases sg <;> rfl, HE.out, (fun h => hle (by simpa using h)), HR6.out, HB6.out, HNX.out⟩
    case rest =>
      obtain ⟨bad, rfl, HE, hbad, hr, hb, hn⟩ := hcut
      have HR := Lib.hid hr
      have HB := Lib.hid hb
      have HN := Lib.hid hn
      cases bad with
      | true =>
        rw [if_pos rfl] at HE
        clear hr hb hn HIE
        go_wp2_with fail
        refine (rfail_call HR.out 43 s.i rfl rfl).mono ?_; rintro e w7 ⟨rfl, hnt⟩
        have HNT := Lib.hid hnt
        have HN7 := Lib.hid (show isNd w7 w.heap.size from by
          obtain ⟨cs, h1, h2⟩ := HN.out
          exact ⟨cs, h1, ((hnt.1 none _ (RBut.refl rb none _)).block _ (isNd.lt ⟨cs, h1, h2⟩) (by omega) (by simp)).trans h2⟩)
        obtain ⟨a0, a1, a2, a3, a4, a5, a6, a7, a8, m0, m1, m2, m3, m4, m5, m6, m7, m8, fz⟩ := HN7.out.cells
        have hnl := HN7.out.lt
        clear hnt
        go_wp2_with fail
        rw [fold_setNd]
        refine ret_nd2 Tryz.results138 rfl rfl HN7.out rfl ?_
        have hk := HNT.out.belowK (setNd_below (Nat.le_refl w.heap.size) 0 0 0 0 0 0 0 0 0) hrw w ev.ownBlock HB.out (Nat.le_refl _)
        exact ⟨hk.1, by rw [HE.out]; exact ⟨rfl, by decide, hk.2⟩⟩
      | false =>
        rw [if_neg (by decide)] at HE
        have hq2 := hbad rfl
        have c0 := hr.c0
        have c2 := hr.c2
        have rbl := hr.lt
        have f2 := hr.fz 2
        have hnl := hn.lt
        clear hr hb hn HIE hbad
        go_wp2_with fail
        refine wp_region_segs (X := none) 10 [([0, 1, 2, 3, 4, 5], 6)] [7, 8, 9] (by kernel_rfl) (by kernel_rfl) rfl (fun _ _ _ _ _ h => h) ?_
        simp only [wpSegs, pickSegs_nil, pickSegs_cons, pickOps_nil, pickOps_cons, List.getD_cons_zero, List.getD_cons_succ, List.drop_succ_cons, List.drop_zero]
        repeat (go_big_quiet_step (fail))
        refine wpQuiet_nil ?_
        go_wp2_with fail
        refine (rwide_call (w := wc.drew) rbl c0).mono ?_; rintro e w7 ⟨rfl, rfl⟩
        go_wp2_with fail
        refine ⟨Keeps.refl _, ?_⟩
        repeat (go_big_quiet_step (fail))
        refine wpQuiet_nil ?_
        have hr8 := (HR.out.setAt (j := q + wideB ere) hq2).drew
        have hb8 := (HB.out.store 2 (.int .i64 ((q + wideB ere : Nat) : Int))).drew
        have hn8 : isNd ((wc.setCell ⟨rb, 2, none⟩ (.int .i64 ((q + wideB ere : Nat) : Int))).drew) w.heap.size := by
          obtain ⟨cs, h1, h2⟩ := HN.out
          exact ⟨cs, h1, (Below.heap_setCell _ _ _ _ (by show w.heap.size ≠ rb; omega)).trans h2⟩
        rw [Int.natCast_add] at hr8 hb8 hn8
        simp only at hr8
        go_upto_region 15 with fail
        revert hr8 hb8 hn8
        generalize (wc.setCell ⟨rb, 2, none⟩ (.int .i64 ((q : Int) + (wideB ere : Int)))).drew = w9
        intro hr8 hb8 hn8
        have HR9 := Lib.hid hr8
        have HB9 := Lib.hid hb8
        have HN9 := Lib.hid hn8
        clear hr8 hb8 hn8 c0 c2 f2 rbl hnl
        obtain ⟨a0, a1, a2, a3, a4, a5, a6, a7, a8, m0, m1, m2, m3, m4, m5, m6, m7, m8, fz⟩ := HN9.out.cells
        have hnl := HN9.out.lt
        go_wp2_with fail
        rw [fold_setNd]
        refine ret_nd2 Tryz.results138 rfl rfl HN9.out rfl ?_
        have hb := setNd_below (w := w9) (Nat.le_refl w.heap.size) 6 0 0 0 0 0 m hi 1
        exact ⟨HB9.out.belowK (Nat.le_refl _) hb, by rw [HE.out]; exact ⟨_, ev, rfl, HR9.out.belowK hb hrw HEV.out, newOr.refl _ _, rfl⟩⟩
theorem setNd_other {w : World} {B C : Nat} (h : C ≠ B) (s0 s1 s2 s3 s4 s5 s6 s7 s8 : Int) : (setNd w B s0 s1 s2 s3 s4 s5 s6 s7 s8).heap[C]? = w.heap[C]? := by
  unfold setNd
  iterate 9 rw [Below.heap_setCell _ _ _ _ (by exact h)]
theorem newOr_from {w w1 : World} {eb eb' : Option Nat} (h : newOr w1 eb eb') (hs : w.heap.size ≤ w1.heap.size) : newOr w eb eb' := h.imp id fun h g hg => Nat.le_trans hs (h g hg)
theorem dup_signs {i : Nat} (h : repeatsL ere L i = true) (h42 : signAt L i 42 = false) : (ere = false → signAt L i 43 = false ∧ signAt L i 63 = false) ∧ ((ere && signAt L i 43) = false → (ere && signAt L i 63) = false → i + wideB ere ≤ L.length) := by
  have h1 : (ere && (signAt L i 43 || signAt L i 63) || seesAt L i (signB ere 123)) = true := by
    rw [repeatsL, sees_sign1, sees_sign1, sees_sign1, h42, Bool.false_or] at h
    exact h
  refine ⟨fun he => ?_, fun h3 h4 => ?_⟩
  · subst he
    rw [Bool.false_and, Bool.false_or, sees_sgn, if_neg (by decide), Bool.and_eq_true] at h1
    have h5 := h1.1
    simp only [signAt, Bool.and_eq_true, beq_iff_eq] at h5
    constructor <;> simp [signAt, h5.2.1]
  · have h5 : (ere && (signAt L i 43 || signAt L i 63)) = false := by rw [Bool.and_or_distrib_left, h3, h4]; rfl
    rw [h5, Bool.false_or] at h1
    exact seesSign_le h1
theorem dup_eq (ere : Bool) (L : List Mk) (s : Rst) : dupL ere L s = if signAt L s.i 42 then .ok (repN 0 (-1)) ⟨s.i + 1, s.ended⟩
  else if signAt L s.i 43 then .ok (repN 1 (-1)) ⟨s.i + 1, s.ended⟩
  else if signAt L s.i 63 then .ok (repN 0 1) ⟨s.i + 1, s.ended⟩
  else match intervalL ere L s with
    | .no e i => .no e i
    | .ok (lo, hi) t => .ok (repN lo hi) t := by
  rw [dupL, sees_sign1, sees_sign1, sees_sign1]
  rfl
set_option maxRecDepth 100000 in
set_option maxHeartbeats 12800000 in
theorem rdup5_call (hv : RfS w rb ere mb mo cap L s k ev) (hrp : repeatsL ere L s.i = true) :
    Calls Tryz.prog 114 #[.pointer (some ⟨rb, 0, none⟩)] w (RPost w rb ere mb mo cap L k ev (dupL ere L s) (ndV Nd.zero) fun d v _ => v = ndV d) := by
  have hlen := hv.m.len
  have hrw := hv.lt
  have HEV := Lib.hid hv.evlt
  have HD := Lib.hid (dup_eq ere L s)
  have HSG := Lib.hid (fun h => dup_signs hrp h)
  have hat1 : ∀ c, signAt L s.i c = true → s.i + 1 ≤ L.length := fun c h => signAt_lt h
  have HAT := Lib.hid hat1
  have HV := Lib.hid hv
  clear hv hat1 hrp
  go_enter Tryz.func114, Tryz.ntmps114
  go_upto_region 3 with fail
  have hN : isNd ((w.alloc (.cells #[.int .i8 0, .int .u64 0, .int .u64 0, .int .u64 0, .int .u64 0, .int .i64 0, .int .i64 0, .int .i64 0, .int .i64 0] 39)).alloc (.cells #[.int .i8 6, .int .u64 0, .int .u64 0, .int .u64 0, .int .u64 0, .int .i64 0, .int .i64 0, .int .i64 0, .int .i64 1] 39)) w.heap.size := ⟨_, rfl, (heap_alloc_old _ _ (by simp)).trans (heap_alloc_new w _)⟩
  have h6 : ((w.alloc (.cells #[.int .i8 0, .int .u64 0, .int .u64 0, .int .u64 0, .int .u64 0, .int .i64 0, .int .i64 0, .int .i64 0, .int .i64 0] 39)).alloc (.cells #[.int .i8 6, .int .u64 0, .int .u64 0, .int .u64 0, .int .u64 0, .int .i64 0, .int .i64 0, .int .i64 0, .int .i64 1] 39)).heap[w.heap.size + 1]? = some (.cells #[.int .i8 6, .int .u64 0, .int .u64 0, .int .u64 0, .int .u64 0, .int .i64 0, .int .i64 0, .int .i64 0, .int .i64 1] 39 (0, 0)) := made_at (by simp)
  have hal : Below w.heap.size w ((w.alloc (.cells #[.int .i8 0, .int .u64 0, .int .u64 0, .int .u64 0, .int .u64 0, .int .i64 0, .int .i64 0, .int .i64 0, .int .i64 0] 39)).alloc (.cells #[.int .i8 6, .int .u64 0, .int .u64 0, .int .u64 0, .int .u64 0, .int .i64 0, .int .i64 0, .int .i64 0, .int .i64 1] 39)) := (by repeat (first | exact Below.refl _ _ | assumption | refine Below.drew ?_ | refine Below.alloc ?_ (by first | (simp; done) | (simp; omega) | omega) _ | refine Below.setCell ?_ (by first | (simp; done) | (simp; omega) | omega) _))
  revert hN h6 hal
  generalize (w.alloc (.cells #[.int .i8 0, .int .u64 0, .int .u64 0, .int .u64 0, .int .u64 0, .int .i64 0, .int .i64 0, .int .i64 0, .int .i64 0] 39)).alloc (.cells #[.int .i8 6, .int .u64 0, .int .u64 0, .int .u64 0, .int .u64 0, .int .i64 0, .int .i64 0, .int .i64 0, .int .i64 1] 39) = wx
  intro hN h6 hal
  have HR0 := Lib.hid (HV.out.below hal)
  have HB0 := Lib.hid (RBut.of_below (rb := rb) (eb := ev.ownBlock) hal)
  have HN0 := Lib.hid hN
  have H60 := Lib.hid h6
  clear hal hN h6 HV
  obtain ⟨st, hst⟩ : ∃ b, signAt L s.i 42 = b := ⟨_, rfl⟩
  have HST := Lib.hid hst
  rw [hst] at HD
  clear hst
  go_wp2_with fail
  refine (ris_call HR0.out.v 0 rfl (by omega) 42 rfl).mono ?_; rintro e w1 ⟨rfl, hb1⟩
  rw [Nat.add_zero, HST.out]
  have HR1 := Lib.hid (HR0.out.below hb1)
  have HB1 := Lib.hid (HB0.out.below hb1)
  have HN1 := Lib.hid (HN0.out.below hb1)
  have H61 := Lib.hid ((hb1.block _ (Array.getElem?_eq_some_iff.1 H60.out).1).trans H60.out)
  clear hb1 HR0 HB0 HN0 H60
  cases st with
  | true =>
    have HE := Lib.hid (show dupL _ L s = .ok (repN 0 (-1)) ⟨s.i + 1, s.ended⟩ from HD.out)
    have hat := HAT.out 42 HST.out
    have h6l : w.heap.size + 1 < w1.heap.size := (Array.getElem?_eq_some_iff.1 H61.out).1
    have h6c : ∀ j, w1.cell? ⟨w.heap.size + 1, j, none⟩ = _ := fun j => cell_of_row _ _ j _ _ (0, 0) H61.out
    have h6f := frozen_cls H61.out
    have g6 := h6c 6
    have g7 := h6c 7
    simp only [List.getElem?_toArray, List.getElem?_cons_zero, List.getElem?_cons_succ] at g6 g7
    clear h6c HD
    go_upto_region 10 with fail
    have hbs : Below (w.heap.size + 1) w1 ((w1.setCell ⟨w.heap.size + 1, 7, none⟩ (.int .i64 (-1)))) := ((Below.refl _ _).setCell (p := ⟨w.heap.size + 1, 7, none⟩) (Nat.le_refl _) _)
    have hx : ((w1.setCell ⟨w.heap.size + 1, 7, none⟩ (.int .i64 (-1)))).heap[w.heap.size + 1]? = some (.cells #[.int .i8 6, .int .u64 0, .int .u64 0, .int .u64 0, .int .u64 0, .int .i64 0, .int .i64 0, .int .i64 (-1), .int .i64 1] 39 (0, 0)) := by
      have h := H61.out
      simp [World.setCell, Array.getElem?_modify, h]
    have hr := HR1.out.belowK hbs (by omega) (fun g hg => by have := HEV.out g hg; omega)
    have hb := HB1.out.belowK (Nat.le_succ _) hbs
    have hn : isNd ((w1.setCell ⟨w.heap.size + 1, 7, none⟩ (.int .i64 (-1)))) w.heap.size := by
      obtain ⟨cs, h1, h2⟩ := HN1.out
      exact ⟨cs, h1, (hbs.block _ (Nat.lt_succ_self _)).trans h2⟩
    revert hx hr hb hn
    generalize (w1.setCell ⟨w.heap.size + 1, 7, none⟩ (.int .i64 (-1))) = w7
    intro hx hr hb hn
    have HX7 := Lib.hid hx
    have HR7 := Lib.hid hr
    have HB7 := Lib.hid hb
    have HN7 := Lib.hid hn
    have c2 := hr.c2
    have rbl := hr.lt
    have f2 := hr.fz 2
    clear hx hr hb hn hbs g6 g7 h6f h6l HR1 HB1 HN1 H61
    go_upto_region 11 with fail
    have hr8 := HR7.out.setAt (j := s.i + 1) hat
    have hb8 := HB7.out.store 2 (.int .i64 ((s.i + 1 : Nat) : Int))
    have hn8 : isNd (w7.setCell ⟨rb, 2, none⟩ (.int .i64 ((s.i + 1 : Nat) : Int))) w.heap.size := by
      obtain ⟨cs, h1, h2⟩ := HN7.out
      exact ⟨cs, h1, (Below.heap_setCell _ _ _ _ (by show w.heap.size ≠ rb; omega)).trans h2⟩
    have hx8 : (w7.setCell ⟨rb, 2, none⟩ (.int .i64 ((s.i + 1 : Nat) : Int))).heap[w.heap.size + 1]? = _ := (Below.heap_setCell _ _ _ _ (by show w.heap.size + 1 ≠ rb; omega)).trans HX7.out
    rw [Int.natCast_add, show ((1 : Nat) : Int) = 1 from rfl] at hr8 hb8 hn8 hx8
    revert hr8 hb8 hn8 hx8
    generalize w7.setCell ⟨rb, 2, none⟩ (.int .i64 ((s.i : Int) + 1)) = w9
    intro hr8 hb8 hn8 hx8
    have HR9 := Lib.hid hr8
    have HB9 := Lib.hid hb8
    have HN9 := Lib.hid hn8
    have hxl := (Array.getElem?_eq_some_iff.1 hx8).1
    have hxc : ∀ j, w9.cell? ⟨w.heap.size + 1, j, none⟩ = _ := fun j => cell_of_row _ _ j _ _ (0, 0) hx8
    have x0 := hxc 0
    have x1 := hxc 1
    have x2 := hxc 2
    have x3 := hxc 3
    have x4 := hxc 4
    have x5 := hxc 5
    have x6 := hxc 6
    have x7 := hxc 7
    have x8 := hxc 8
    simp only [List.getElem?_toArray, List.getElem?_cons_zero, List.getElem?_cons_succ] at x0 x1 x2 x3 x4 x5 x6 x7 x8
    clear hr8 hb8 hn8 hx8 hxc c2 rbl f2 HX7 HR7 HB7 HN7
    obtain ⟨a0, a1, a2, a3, a4, a5, a6, a7, a8, m0, m1, m2, m3, m4, m5, m6, m7, m8, fz⟩ := HN9.out.cells
    have hnl := HN9.out.lt
    go_wp2_with fail
    rw [fold_setNd]
    refine ret_nd2 Tryz.results114 rfl rfl HN9.out rfl ?_
    have hb := setNd_below (w := w9) (Nat.le_refl w.heap.size) 6 0 0 0 0 0 0 (-1) 1
    exact ⟨HB9.out.belowK (Nat.le_refl _) hb, by rw [HE.out]; exact ⟨_, ev, rfl, HR9.out.belowK hb hrw HEV.out, newOr.refl _ _, rfl⟩⟩
  | false =>
    obtain ⟨hq1, hq2⟩ := HSG.out HST.out
    have HQ1 := Lib.hid hq1
    have HQ2 := Lib.hid hq2
    clear hq1 hq2 HSG
    have c0 := HR1.out.c0
    have rbl := HR1.out.lt
    cases ere with
    | true =>
      obtain ⟨pl, hpl⟩ : ∃ b, signAt L s.i 43 = b := ⟨_, rfl⟩
      have HPL := Lib.hid hpl
      rw [hpl] at HD
      clear hpl
      go_wp2_with fail
      refine (ris_call HR1.out.v 0 rfl (by omega) 43 rfl).mono ?_; rintro e w2 ⟨rfl, hb2⟩
      rw [Nat.add_zero, HPL.out]
      have HR2 := Lib.hid (HR1.out.below hb2)
      have HB2 := Lib.hid (HB1.out.below hb2)
      have HN2 := Lib.hid (HN1.out.below hb2)
      have H62 := Lib.hid ((hb2.block _ (Array.getElem?_eq_some_iff.1 H61.out).1).trans H61.out)
      clear hb2 HR1 HB1 HN1 H61 c0 rbl
      cases pl with
      | true =>
        have HE := Lib.hid (show dupL _ L s = .ok (repN 1 (-1)) ⟨s.i + 1, s.ended⟩ from HD.out)
        have hat := HAT.out 43 HPL.out
        have h6l : w.heap.size + 1 < w2.heap.size := (Array.getElem?_eq_some_iff.1 H62.out).1
        have h6c : ∀ j, w2.cell? ⟨w.heap.size + 1, j, none⟩ = _ := fun j => cell_of_row _ _ j _ _ (0, 0) H62.out
        have h6f := frozen_cls H62.out
        have g6 := h6c 6
        have g7 := h6c 7
        simp only [List.getElem?_toArray, List.getElem?_cons_zero, List.getElem?_cons_succ] at g6 g7
        clear h6c HD
        go_upto_region 10 with fail
        have hbs : Below (w.heap.size + 1) w2 (((w2.setCell ⟨w.heap.size + 1, 6, none⟩ (.int .i64 1)).setCell ⟨w.heap.size + 1, 7, none⟩ (.int .i64 (-1)))) := (((Below.refl _ _).setCell (p := ⟨w.heap.size + 1, 6, none⟩) (Nat.le_refl _) _).setCell (p := ⟨w.heap.size + 1, 7, none⟩) (Nat.le_refl _) _)
        have hx : (((w2.setCell ⟨w.heap.size + 1, 6, none⟩ (.int .i64 1)).setCell ⟨w.heap.size + 1, 7, none⟩ (.int .i64 (-1)))).heap[w.heap.size + 1]? = some (.cells #[.int .i8 6, .int .u64 0, .int .u64 0, .int .u64 0, .int .u64 0, .int .i64 0, .int .i64 1, .int .i64 (-1), .int .i64 1] 39 (0, 0)) := by
          have h := H62.out
          simp [World.setCell, Array.getElem?_modify, h]
        have hr := HR2.out.belowK hbs (by omega) (fun g hg => by have := HEV.out g hg; omega)
        have hb := HB2.out.belowK (Nat.le_succ _) hbs
        have hn : isNd (((w2.setCell ⟨w.heap.size + 1, 6, none⟩ (.int .i64 1)).setCell ⟨w.heap.size + 1, 7, none⟩ (.int .i64 (-1)))) w.heap.size := by
          obtain ⟨cs, h1, h2⟩ := HN2.out
          exact ⟨cs, h1, (hbs.block _ (Nat.lt_succ_self _)).trans h2⟩
        revert hx hr hb hn
        generalize ((w2.setCell ⟨w.heap.size + 1, 6, none⟩ (.int .i64 1)).setCell ⟨w.heap.size + 1, 7, none⟩ (.int .i64 (-1))) = w7
        intro hx hr hb hn
        have HX7 := Lib.hid hx
        have HR7 := Lib.hid hr
        have HB7 := Lib.hid hb
        have HN7 := Lib.hid hn
        have c2 := hr.c2
        have rbl := hr.lt
        have f2 := hr.fz 2
        clear hx hr hb hn hbs g6 g7 h6f h6l HR2 HB2 HN2 H62
        go_upto_region 11 with fail
        have hr8 := HR7.out.setAt (j := s.i + 1) hat
        have hb8 := HB7.out.store 2 (.int .i64 ((s.i + 1 : Nat) : Int))
        have hn8 : isNd (w7.setCell ⟨rb, 2, none⟩ (.int .i64 ((s.i + 1 : Nat) : Int))) w.heap.size := by
          obtain ⟨cs, h1, h2⟩ := HN7.out
          exact ⟨cs, h1, (Below.heap_setCell _ _ _ _ (by show w.heap.size ≠ rb; omega)).trans h2⟩
        have hx8 : (w7.setCell ⟨rb, 2, none⟩ (.int .i64 ((s.i + 1 : Nat) : Int))).heap[w.heap.size + 1]? = _ := (Below.heap_setCell _ _ _ _ (by show w.heap.size + 1 ≠ rb; omega)).trans HX7.out
        rw [Int.natCast_add, show ((1 : Nat) : Int) = 1 from rfl] at hr8 hb8 hn8 hx8
        revert hr8 hb8 hn8 hx8
        generalize w7.setCell ⟨rb, 2, none⟩ (.int .i64 ((s.i : Int) + 1)) = w9
        intro hr8 hb8 hn8 hx8
        have HR9 := Lib.hid hr8
        have HB9 := Lib.hid hb8
        have HN9 := Lib.hid hn8
        have hxl := (Array.getElem?_eq_some_iff.1 hx8).1
        have hxc : ∀ j, w9.cell? ⟨w.heap.size + 1, j, none⟩ = _ := fun j => cell_of_row _ _ j _ _ (0, 0) hx8
        have x0 := hxc 0
        have x1 := hxc 1
        have x2 := hxc 2
        have x3 := hxc 3
        have x4 := hxc 4
        have x5 := hxc 5
        have x6 := hxc 6
        have x7 := hxc 7
        have x8 := hxc 8
        simp only [List.getElem?_toArray, List.getElem?_cons_zero, List.getElem?_cons_succ] at x0 x1 x2 x3 x4 x5 x6 x7 x8
        clear hr8 hb8 hn8 hx8 hxc c2 rbl f2 HX7 HR7 HB7 HN7
        obtain ⟨a0, a1, a2, a3, a4, a5, a6, a7, a8, m0, m1, m2, m3, m4, m5, m6, m7, m8, fz⟩ := HN9.out.cells
        have hnl := HN9.out.lt
        go_wp2_with fail
        rw [fold_setNd]
        refine ret_nd2 Tryz.results114 rfl rfl HN9.out rfl ?_
        have hb := setNd_below (w := w9) (Nat.le_refl w.heap.size) 6 0 0 0 0 0 1 (-1) 1
        exact ⟨HB9.out.belowK (Nat.le_refl _) hb, by rw [HE.out]; exact ⟨_, ev, rfl, HR9.out.belowK hb hrw HEV.out, newOr.refl _ _, rfl⟩⟩
      | false =>
        have c0 := HR2.out.c0
        have rbl := HR2.out.lt
        obtain ⟨qu, hqu⟩ : ∃ b, signAt L s.i 63 = b := ⟨_, rfl⟩
        have HQU := Lib.hid hqu
        rw [hqu] at HD
        clear hqu
        go_wp2_with fail
        refine (ris_call HR2.out.v 0 rfl (by omega) 63 rfl).mono ?_; rintro e w3 ⟨rfl, hb3⟩
        rw [Nat.add_zero, HQU.out]
        have HR3 := Lib.hid (HR2.out.below hb3)
        have HB3 := Lib.hid (HB2.out.below hb3)
        have HN3 := Lib.hid (HN2.out.below hb3)
        have H63 := Lib.hid ((hb3.block _ (Array.getElem?_eq_some_iff.1 H62.out).1).trans H62.out)
        clear hb3 HR2 HB2 HN2 H62 c0 rbl
        cases qu with
        | true =>
          have HE := Lib.hid (show dupL _ L s = .ok (repN 0 1) ⟨s.i + 1, s.ended⟩ from HD.out)
          have hat := HAT.out 63 HQU.out
          have h6l : w.heap.size + 1 < w3.heap.size := (Array.getElem?_eq_some_iff.1 H63.out).1
          have h6c : ∀ j, w3.cell? ⟨w.heap.size + 1, j, none⟩ = _ := fun j => cell_of_row _ _ j _ _ (0, 0) H63.out
          have h6f := frozen_cls H63.out
          have g6 := h6c 6
          have g7 := h6c 7
          simp only [List.getElem?_toArray, List.getElem?_cons_zero, List.getElem?_cons_succ] at g6 g7
          clear h6c HD
          go_upto_region 10 with fail
          have hbs : Below (w.heap.size + 1) w3 ((w3.setCell ⟨w.heap.size + 1, 7, none⟩ (.int .i64 1))) := ((Below.refl _ _).setCell (p := ⟨w.heap.size + 1, 7, none⟩) (Nat.le_refl _) _)
          have hx : ((w3.setCell ⟨w.heap.size + 1, 7, none⟩ (.int .i64 1))).heap[w.heap.size + 1]? = some (.cells #[.int .i8 6, .int .u64 0, .int .u64 0, .int .u64 0, .int .u64 0, .int .i64 0, .int .i64 0, .int .i64 1, .int .i64 1] 39 (0, 0)) := by
            have h := H63.out
            simp [World.setCell, Array.getElem?_modify, h]
          have hr := HR3.out.belowK hbs (by omega) (fun g hg => by have := HEV.out g hg; omega)
          have hb := HB3.out.belowK (Nat.le_succ _) hbs
          have hn : isNd ((w3.setCell ⟨w.heap.size + 1, 7, none⟩ (.int .i64 1))) w.heap.size := by
            obtain ⟨cs, h1, h2⟩ := HN3.out
            exact ⟨cs, h1, (hbs.block _ (Nat.lt_succ_self _)).trans h2⟩
          revert hx hr hb hn
          generalize (w3.setCell ⟨w.heap.size + 1, 7, none⟩ (.int .i64 1)) = w7
          intro hx hr hb hn
          have HX7 := Lib.hid hx
          have HR7 := Lib.hid hr
          have HB7 := Lib.hid hb
          have HN7 := Lib.hid hn
          have c2 := hr.c2
          have rbl := hr.lt
          have f2 := hr.fz 2
          clear hx hr hb hn hbs g6 g7 h6f h6l HR3 HB3 HN3 H63
          go_upto_region 11 with fail
          have hr8 := HR7.out.setAt (j := s.i + 1) hat
          have hb8 := HB7.out.store 2 (.int .i64 ((s.i + 1 : Nat) : Int))
          have hn8 : isNd (w7.setCell ⟨rb, 2, none⟩ (.int .i64 ((s.i + 1 : Nat) : Int))) w.heap.size := by
            obtain ⟨cs, h1, h2⟩ := HN7.out
            exact ⟨cs, h1, (Below.heap_setCell _ _ _ _ (by show w.heap.size ≠ rb; omega)).trans h2⟩
          have hx8 : (w7.setCell ⟨rb, 2, none⟩ (.int .i64 ((s.i + 1 : Nat) : Int))).heap[w.heap.size + 1]? = _ := (Below.heap_setCell _ _ _ _ (by show w.heap.size + 1 ≠ rb; omega)).trans HX7.out
          rw [Int.natCast_add, show ((1 : Nat) : Int) = 1 from rfl] at hr8 hb8 hn8 hx8
          revert hr8 hb8 hn8 hx8
          generalize w7.setCell ⟨rb, 2, none⟩ (.int .i64 ((s.i : Int) + 1)) = w9
          intro hr8 hb8 hn8 hx8
          have HR9 := Lib.hid hr8
          have HB9 := Lib.hid hb8
          have HN9 := Lib.hid hn8
          have hxl := (Array.getElem?_eq_some_iff.1 hx8).1
          have hxc : ∀ j, w9.cell? ⟨w.heap.size + 1, j, none⟩ = _ := fun j => cell_of_row _ _ j _ _ (0, 0) hx8
          have x0 := hxc 0
          have x1 := hxc 1
          have x2 := hxc 2
          have x3 := hxc 3
          have x4 := hxc 4
          have x5 := hxc 5
          have x6 := hxc 6
          have x7 := hxc 7
          have x8 := hxc 8
          simp only [List.getElem?_toArray, List.getElem?_cons_zero, List.getElem?_cons_succ] at x0 x1 x2 x3 x4 x5 x6 x7 x8
          clear hr8 hb8 hn8 hx8 hxc c2 rbl f2 HX7 HR7 HB7 HN7
          obtain ⟨a0, a1, a2, a3, a4, a5, a6, a7, a8, m0, m1, m2, m3, m4, m5, m6, m7, m8, fz⟩ := HN9.out.cells
          have hnl := HN9.out.lt
          go_wp2_with fail
          rw [fold_setNd]
          refine ret_nd2 Tryz.results114 rfl rfl HN9.out rfl ?_
          have hb := setNd_below (w := w9) (Nat.le_refl w.heap.size) 6 0 0 0 0 0 0 1 1
          exact ⟨HB9.out.belowK (Nat.le_refl _) hb, by rw [HE.out]; exact ⟨_, ev, rfl, HR9.out.belowK hb hrw HEV.out, newOr.refl _ _, rfl⟩⟩
        | false =>
          have HWI := Lib.hid (HQ2.out (by rw [HPL.out]; rfl) (by rw [HQU.out]; rfl))
          have HE := Lib.hid (show dupL true L s = _ by rw [HD.out, if_neg (by decide), if_neg (by decide), if_neg (by decide)])
          clear HD
          go_wp2_with fail
          refine (rinterval_call HR3.out HWI.out).mono ?_; rintro e w5 ⟨hb5, hp5⟩
          cases hit : intervalL true L s with
          | no er p =>
            rw [hit] at hp5 HE
            obtain ⟨rfl, her, h1, h2, h3⟩ := hp5
            have HB5 := Lib.hid (HB3.out.trans (.inl rfl) hb5)
            have HN5 := Lib.hid (show isNd w5 w.heap.size from by
              obtain ⟨cs, h4, h5⟩ := HN3.out
              exact ⟨cs, h4, (hb5.block _ (isNd.lt ⟨cs, h4, h5⟩) (by omega) (fun e => by have := HEV.out _ e.symm; omega)).trans h5⟩)
            have HF := Lib.hid (show er ≠ 0 ∧ rb < w5.heap.size ∧ w5.cell? ⟨rb, 6, none⟩ = some (.int .i64 er) ∧ w5.cell? ⟨rb, 7, none⟩ = some (.int .i64 p) from ⟨her, h1, h2, h3⟩)
            clear hit hb5 her h1 h2 h3
            obtain ⟨a0, a1, a2, a3, a4, a5, a6, a7, a8, m0, m1, m2, m3, m4, m5, m6, m7, m8, fz⟩ := HN5.out.cells
            have hnl := HN5.out.lt
            go_wp2_with fail
            rw [fold_setNd]
            refine ret_nd2 Tryz.results114 rfl rfl HN5.out rfl ?_
            have hb := setNd_below (w := w5) (Nat.le_refl w.heap.size) 0 0 0 0 0 0 0 0 0
            exact ⟨HB5.out.belowK (Nat.le_refl _) hb, by rw [HE.out]; exact ⟨rfl, HF.out.1, Nat.lt_of_lt_of_le HF.out.2.1 hb.size, (World.cell?_of_block (a := ⟨rb, 6, none⟩) (hb.block rb hrw)).trans HF.out.2.2.1, (World.cell?_of_block (a := ⟨rb, 7, none⟩) (hb.block rb hrw)).trans HF.out.2.2.2⟩⟩
          | ok a t =>
            obtain ⟨lo, hi⟩ := a
            rw [hit] at hp5 HE
            obtain ⟨v, ev5, rfl, hr5, hn5, rfl⟩ := hp5
            have HB5 := Lib.hid (HB3.out.trans (.inl rfl) hb5)
            have HN5 := Lib.hid (show isNd w5 w.heap.size from by
              obtain ⟨cs, h4, h5⟩ := HN3.out
              exact ⟨cs, h4, (hb5.block _ (isNd.lt ⟨cs, h4, h5⟩) (by omega) (fun e => by have := HEV.out _ e.symm; omega)).trans h5⟩)
            have HR5 := Lib.hid hr5
            have HNO := Lib.hid hn5
            have hszn := (HN3.out).lt
            have HEV5 := Lib.hid (show ∀ g, ev5.ownBlock = some g → g ≠ w.heap.size from fun g hg e => by
              rcases hn5 with h | h
              · rw [h] at hg; have := HEV.out g hg; omega
              · have := h g hg; omega)
            clear hit hb5 hr5 hn5
            obtain ⟨a0, a1, a2, a3, a4, a5, a6, a7, a8, m0, m1, m2, m3, m4, m5, m6, m7, m8, fz⟩ := HN5.out.cells
            have hnl := HN5.out.lt
            simp only [repN]
            go_wp2_with fail
            rw [fold_setNd]
            refine ret_nd2 Tryz.results114 rfl rfl HN5.out rfl ?_
            have hb := setNd_below (w := w5) (Nat.le_refl w.heap.size) 6 0 0 0 0 0 lo hi 1
            have hoth : ∀ g, g ≠ w.heap.size → (setNd w5 w.heap.size 6 0 0 0 0 0 lo hi 1).heap[g]? = w5.heap[g]? := fun g hg => setNd_other hg _ _ _ _ _ _ _ _ _
            exact ⟨HB5.out.belowK (Nat.le_refl _) hb, by rw [HE.out]; exact ⟨_, ev5, rfl, HR5.out.block (fun g hg => hoth g (HEV5.out g hg)) (hoth rb (by omega)) (hoth mb (by have := HR5.out.mlt; omega)) hb.size, newOr_from HNO.out (by have := HB3.out.size; omega), rfl⟩⟩
    | false =>
      have HS4 := Lib.hid (HQ1.out rfl)
      have HWI := Lib.hid (HQ2.out rfl rfl)
      have HE := Lib.hid (show dupL false L s = _ by rw [HD.out, if_neg (by decide), if_neg (by rw [HS4.out.1]; decide), if_neg (by rw [HS4.out.2]; decide)])
      clear HD
      go_wp2_with fail
      refine (rinterval_call HR1.out HWI.out).mono ?_; rintro e w5 ⟨hb5, hp5⟩
      cases hit : intervalL false L s with
      | no er p =>
        rw [hit] at hp5 HE
        obtain ⟨rfl, her, h1, h2, h3⟩ := hp5
        have HB5 := Lib.hid (HB1.out.trans (.inl rfl) hb5)
        have HN5 := Lib.hid (show isNd w5 w.heap.size from by
          obtain ⟨cs, h4, h5⟩ := HN1.out
          exact ⟨cs, h4, (hb5.block _ (isNd.lt ⟨cs, h4, h5⟩) (by omega) (fun e => by have := HEV.out _ e.symm; omega)).trans h5⟩)
        have HF := Lib.hid (show er ≠ 0 ∧ rb < w5.heap.size ∧ w5.cell? ⟨rb, 6, none⟩ = some (.int .i64 er) ∧ w5.cell? ⟨rb, 7, none⟩ = some (.int .i64 p) from ⟨her, h1, h2, h3⟩)
        clear hit hb5 her h1 h2 h3
        obtain ⟨a0, a1, a2, a3, a4, a5, a6, a7, a8, m0, m1, m2, m3, m4, m5, m6, m7, m8, fz⟩ := HN5.out.cells
        have hnl := HN5.out.lt
        go_wp2_with fail
        rw [fold_setNd]
        refine ret_nd2 Tryz.results114 rfl rfl HN5.out rfl ?_
        have hb := setNd_below (w := w5) (Nat.le_refl w.heap.size) 0 0 0 0 0 0 0 0 0
        exact ⟨HB5.out.belowK (Nat.le_refl _) hb, by rw [HE.out]; exact ⟨rfl, HF.out.1, Nat.lt_of_lt_of_le HF.out.2.1 hb.size, (World.cell?_of_block (a := ⟨rb, 6, none⟩) (hb.block rb hrw)).trans HF.out.2.2.1, (World.cell?_of_block (a := ⟨rb, 7, none⟩) (hb.block rb hrw)).trans HF.out.2.2.2⟩⟩
      | ok a t =>
        obtain ⟨lo, hi⟩ := a
        rw [hit] at hp5 HE
        obtain ⟨v, ev5, rfl, hr5, hn5, rfl⟩ := hp5
        have HB5 := Lib.hid (HB1.out.trans (.inl rfl) hb5)
        have HN5 := Lib.hid (show isNd w5 w.heap.size from by
          obtain ⟨cs, h4, h5⟩ := HN1.out
          exact ⟨cs, h4, (hb5.block _ (isNd.lt ⟨cs, h4, h5⟩) (by omega) (fun e => by have := HEV.out _ e.symm; omega)).trans h5⟩)
        have HR5 := Lib.hid hr5
        have HNO := Lib.hid hn5
        have hszn := (HN1.out).lt
        have HEV5 := Lib.hid (show ∀ g, ev5.ownBlock = some g → g ≠ w.heap.size from fun g hg e => by
          rcases hn5 with h | h
          · rw [h] at hg; have := HEV.out g hg; omega
          · have := h g hg; omega)
        clear hit hb5 hr5 hn5
        obtain ⟨a0, a1, a2, a3, a4, a5, a6, a7, a8, m0, m1, m2, m3, m4, m5, m6, m7, m8, fz⟩ := HN5.out.cells
        have hnl := HN5.out.lt
        simp only [repN]
        go_wp2_with fail
        rw [fold_setNd]
        refine ret_nd2 Tryz.results114 rfl rfl HN5.out rfl ?_
        have hb := setNd_below (w := w5) (Nat.le_refl w.heap.size) 6 0 0 0 0 0 lo hi 1
        have hoth : ∀ g, g ≠ w.heap.size → (setNd w5 w.heap.size 6 0 0 0 0 0 lo hi 1).heap[g]? = w5.heap[g]? := fun g hg => setNd_other hg _ _ _ _ _ _ _ _ _
        exact ⟨HB5.out.belowK (Nat.le_refl _) hb, by rw [HE.out]; exact ⟨_, ev5, rfl, HR5.out.block (fun g hg => hoth g (HEV5.out g hg)) (hoth rb (by omega)) (hoth mb (by have := HR5.out.mlt; omega)) hb.size, newOr_from HNO.out (by have := HB1.out.size; omega), rfl⟩⟩
end
end Go.Proofs.YtbdjcmhfcdamiaaGreatDoor

/- The document's reader: among, escape; group, given its sides. -/
namespace Go.Proofs.YtbdjcmhfcdamiaaGreatDoor
open Go.RowKit

theorem drop_contains {l : List Nat} {k : Nat} (h : k < l.length) (c : Nat) : (l.drop k).contains c = (l[k] == c || (l.drop (k + 1)).contains c) := by
  rw [List.drop_eq_getElem_cons h, List.contains_cons]
  congr 1
  rw [Bool.eq_iff_iff]; simp; exact eq_comm
set_option maxRecDepth 100000 in
set_option maxHeartbeats 1600000 in
theorem ramong_call (s : ByteArray) (hs : s.size ≤ 100) (c : Nat) {w : World} :
    Calls Tryz.prog 155 #[.string s, .int .u8 (c : Nat)] w fun e w' => e = .returned (.bool ((bytesOf s).contains c)) ∧ w = w' := by
  obtain ⟨R, hR⟩ : ∃ R, (bytesOf s).contains c = R := ⟨_, rfl⟩
  have HR := Lib.hid hR
  rw [hR]
  clear hR
  go_enter Tryz.func155, Tryz.ntmps155
  go_wp2_with fail
  go_loopg [5] s.size (fun gk iv wr => ∃ i : Nat, iv = .int .i64 (i : Nat) ∧ gk = s.size - i ∧ i ≤ s.size ∧ w = wr ∧ Hid (R = ((bytesOf s).drop i).contains c))
  case atStart => exact ⟨0, rfl, by omega, by omega, rfl, HR.out.symm⟩
  case round =>
    obtain ⟨i, rfl, hg, hi, rfl, HS⟩ := hrel
    have HG := Lib.hid hg
    clear hg
    by_cases hlt : i < s.size
    · have hlt' : (i : Int) < (s.size : Int) := by omega
      have HD := Lib.hid (drop_contains (l := bytesOf s) (k := i) (by rw [bytesOf_length]; exact hlt) c)
      have HX := Lib.hid (show (bytesOf s)[i]'(by rw [bytesOf_length]; exact hlt) = s[i].toNat by
        have h1 := bytesOf_getD s i hlt
        rw [List.getD_eq_getElem?_getD, List.getElem?_eq_getElem (by rw [bytesOf_length]; exact hlt)] at h1
        simpa using h1)
      by_cases hq : s[i].toNat = c
      · have HE := Lib.hid (show R = true by rw [HS.out, HD.out, HX.out, hq]; simp)
        clear HS HD HX
        go_wp2_with fail
        go_ret
        exact ⟨ret_bool HE.out.symm, rfl⟩
      · have HE := Lib.hid (show R = ((bytesOf s).drop (i + 1)).contains c by rw [HS.out, HD.out, HX.out, beq_eq_false_iff_ne.2 hq]; rfl)
        have hq' : ((s[i].toNat : Int) == (c : Int)) = false := beq_eq_false_iff_ne.2 (by omega)
        clear HS HD HX
        go_wp2_with fail
        go_roundg (s.size - (i + 1))
        case measure => have := HG.out; omega
        case rel => exact ⟨i + 1, by go_num, rfl, by omega, rfl, HE.out⟩
    · have hlt' : ¬ (i : Int) < (s.size : Int) := by omega
      have HE := Lib.hid (show R = false by rw [HS.out, List.drop_eq_nil_of_le (by rw [bytesOf_length]; omega)]; rfl)
      clear HS
      go_wp2_with fail
      go_ret
      exact ⟨ret_bool HE.out.symm, rfl⟩
theorem own_ref (c : Nat) (hc : c < 256) : (bytesOf ⟨#[46, 91, 93, 40, 41, 42, 43, 63, 123, 125, 124, 94, 36, 92, 47]⟩).contains c = (ownB true).contains c := by
  have h : ∀ c, c < 256 → ((bytesOf ⟨#[46, 91, 93, 40, 41, 42, 43, 63, 123, 125, 124, 94, 36, 92, 47]⟩).contains c == (ownB true).contains c) = true := by decide +kernel
  exact beq_iff_eq.1 (h c hc)
/-- What a backslash means with what stands behind it, but for a group. -/
def escL (ere : Bool) (L : List Mk) (s : Rst) : Out (List Nd) :=
  if s.i + 1 = L.length then .no 40 s.i
  else if (markAt L (s.i + 1)).p then .no 40 s.i
  else if (markAt L (s.i + 1)).b = 110 then .ok [oneN 10] ⟨s.i + 2, s.ended⟩
  else if (ownB ere).contains (markAt L (s.i + 1)).b then .ok [oneN (markAt L (s.i + 1)).b] ⟨s.i + 2, s.ended⟩
  else if !ere && decide (49 ≤ (markAt L (s.i + 1)).b) && decide ((markAt L (s.i + 1)).b ≤ 57) then
    if s.ended.length < (markAt L (s.i + 1)).b - 48 then .no 44 s.i
    else if !s.ended.getD ((markAt L (s.i + 1)).b - 48 - 1) false then .no 44 s.i
    else .ok [refN ((markAt L (s.i + 1)).b - 48)] ⟨s.i + 2, s.ended⟩
  else .no 40 s.i
theorem escape_split (ere : Bool) (L : List Mk) (grp : Rst → Out (List Nd)) (s : Rst) (h : (ere || !signAt L (s.i + 1) 40) = true) : escapeL ere L grp s = withTrue (escL ere L s) := by
  unfold escapeL escL
  by_cases h1 : s.i + 1 = L.length
  · rw [if_pos h1, if_pos h1]; rfl
  rw [if_neg h1, if_neg h1]
  by_cases h2 : (markAt L (s.i + 1)).p = true
  · rw [if_pos h2, if_pos h2]; rfl
  rw [if_neg h2, if_neg h2]
  have h3 : (!ere && (markAt L (s.i + 1)).b == 40) = false := by
    cases ere with
    | true => rfl
    | false =>
      rw [Bool.false_or, Bool.not_eq_true'] at h
      have h4 : (markAt L (s.i + 1)).p = false := by simpa using h2
      by_cases h5 : s.i + 1 < L.length
      · simpa [signAt, h5, h4] using h
      · have h6 : markAt L (s.i + 1) = ⟨0, false⟩ := by simp [markAt, List.getD_eq_getElem?_getD, show L.length ≤ s.i + 1 by omega]
        rw [h6]; rfl
  simp only [h3, Bool.false_eq_true, if_false]
  repeat' split
  all_goals rfl
section
variable {rb : Nat} {ere : Bool} {mb mo cap : Nat} {L : List Mk} {k : Nat}
set_option maxRecDepth 100000 in
set_option maxHeartbeats 12800000 in
theorem rescape_call {w : World} {s : Rst} {ev : Value} (hv : RfS w rb ere mb mo cap L s k ev) (hs : s.i < L.length) :
    Calls Tryz.prog 136 #[.pointer (some ⟨rb, 0, none⟩)] w (RPost w rb ere mb mo cap L k ev (escL ere L s) (.slice none 0 0) fun re v w' => Nds w' w.heap.size v re) := by
  have hlen := hv.m.len
  have c0 := hv.c0
  have c1 := hv.c1
  have c2 := hv.c2
  have rbl := hv.lt
  have mbl := hv.m.lt
  have f2 := hv.fz 2
  have HR := Lib.hid hv
  have HS0 := Lib.hid (show escL ere L s = _ from rfl)
  by_cases hend : s.i + 1 = L.length
  · have hend' : (s.i : Int) + 1 = (L.length : Int) := by omega
    have hend2 : (L.length : Int) ≤ (s.i : Int) + 1 := by omega
    have hend3 : decide ((L.length : Int) ≤ (s.i : Int) + 1) = true := decide_eq_true hend2
    have HE := Lib.hid (show escL ere L s = .no 40 s.i by unfold escL; rw [if_pos hend])
    clear hv hend HS0 hend' hend2
    go_enter Tryz.func136, Tryz.ntmps136
    go_wp2_with fail
    refine (rfail_call HR.out 40 s.i rfl rfl).mono ?_; rintro e wf ⟨rfl, hnt⟩
    have HNT := Lib.hid hnt
    clear hnt
    go_wp2_with fail
    go_ret
    exact RPost.no HE.out (RBut.refl _ _ _) HNT.out (by decide)
  have hi1 : s.i + 1 < L.length := by omega
  have hi1' : (s.i : Int) + 1 < (L.length : Int) := by omega
  have hend3 : decide ((L.length : Int) ≤ (s.i : Int) + 1) = false := decide_eq_false (by omega)
  have hn1 : ((s.i : Int) + 1).toNat = s.i + 1 := by omega
  have cb := hv.m.b (s.i + 1) hi1
  have cp := hv.m.p (s.i + 1) hi1
  have hu := hv.m.u (s.i + 1) hi1
  have HS1 := Lib.hid (show escL ere L s = _ by unfold escL; rw [if_neg hend])
  generalize markAt L (s.i + 1) = m at cb cp hu HS1
  obtain ⟨c, pl⟩ := m
  simp only at cb cp hu
  clear hv HS0 hend
  cases pl with
  | true =>
    have HE := Lib.hid (show escL ere L s = .no 40 s.i by rw [HS1.out, if_pos rfl])
    clear HS1
    go_enter Tryz.func136, Tryz.ntmps136
    go_wp2_with fail
    refine (rfail_call HR.out 40 s.i rfl rfl).mono ?_; rintro e wf ⟨rfl, hnt⟩
    have HNT := Lib.hid hnt
    clear hnt
    go_wp2_with fail
    go_ret
    exact RPost.no HE.out (RBut.refl _ _ _) HNT.out (by decide)
  | false =>
    have HS := Lib.hid (show escL ere L s = _ by rw [HS1.out, if_neg (by simp)])
    clear HS1
    have HM := Lib.hid (show True from trivial)
    cases ere with
    | true =>
      go_enter Tryz.func136, Tryz.ntmps136
      have hi2 : s.i + 2 ≤ L.length := by omega
      have hr2 := HR.out.setAt (j := s.i + 2) hi2
      have hb2 := (RBut.refl rb ev.ownBlock w).store 2 (.int .i64 ((s.i + 2 : Nat) : Int))
      rw [Int.natCast_add, show ((2 : Nat) : Int) = 2 from rfl] at hr2 hb2
      have HR2 := Lib.hid hr2
      have HB2 := Lib.hid hb2
      go_upto_region 10 with fail
      clear hr2 hb2 c0 c1 c2 cb cp f2 rbl mbl
      revert HR2 HB2
      generalize w.setCell ⟨rb, 2, none⟩ (.int .i64 ((s.i : Int) + 2)) = w2
      intro HR2 HB2
      by_cases h110 : c = 110
      · have HE := Lib.hid (show escL true L s = .ok [oneN 10] ⟨s.i + 2, s.ended⟩ by rw [HS.out, if_pos h110])
        subst h110
        go_wp2_with fail
        refine (rset5_call (b := 10) (by decide)).mono ?_; rintro e ws ⟨⟨v, rfl, hv⟩, hb⟩
        have HV := Lib.hid hv
        have HR9 := Lib.hid (HR2.out.below hb)
        have HB9 := Lib.hid (HB2.out.below hb)
        clear hv hb
        go_wp2_with fail
        go_ret
        exact ⟨HB9.out, by rw [HE.out]; exact ⟨_, ev, rfl, HR9.out, newOr.refl _ _, HV.out.mono HB2.out.size⟩⟩
      have h110' : ((c : Int) == 110) = false := beq_eq_false_iff_ne.2 (by omega)
      have HS2 := Lib.hid (show escL true L s = _ by rw [HS.out, if_neg h110])
      clear HS h110
      obtain ⟨ow, how⟩ : ∃ b, (ownB true).contains c = b := ⟨_, rfl⟩
      rw [how] at HS2
      have HOW := Lib.hid how
      clear how
      go_wp2_with fail
      refine (ramong_call _ (by decide) c).mono ?_; rintro e w3 ⟨rfl, rfl⟩
      rw [show (bytesOf ⟨#[46, 91, 93, 40, 41, 42, 43, 63, 123, 125, 124, 94, 36, 92, 47]⟩).contains c = ow from (own_ref c hu).trans HOW.out]
      cases ow with
      | true =>
        have HE := Lib.hid (show escL true L s = .ok [oneN c] ⟨s.i + 2, s.ended⟩ by rw [HS2.out, if_pos rfl])
        go_wp2_with fail
        refine (rset5_call (b := c) hu).mono ?_; rintro e ws ⟨⟨v, rfl, hv⟩, hb⟩
        have HV := Lib.hid hv
        have HR9 := Lib.hid (HR2.out.below hb)
        have HB9 := Lib.hid (HB2.out.below hb)
        clear hv hb
        go_wp2_with fail
        go_ret
        exact ⟨HB9.out, by rw [HE.out]; exact ⟨_, ev, rfl, HR9.out, newOr.refl _ _, HV.out.mono HB2.out.size⟩⟩
      | false =>
        have c0 := HR2.out.c0
        have rbl := HR2.out.lt
        have HE := Lib.hid (show escL true L s = .no 40 s.i by rw [HS2.out, if_neg (by decide), if_neg (by simp)])
        go_wp2_with fail
        refine (rfail_call HR2.out 40 s.i rfl rfl).mono ?_; rintro e wf ⟨rfl, hnt⟩
        have HNT := Lib.hid hnt
        clear hnt
        go_wp2_with fail
        go_ret
        exact RPost.no HE.out HB2.out HNT.out (by decide)
    | false =>
      go_enter Tryz.func136, Tryz.ntmps136
      have hi2 : s.i + 2 ≤ L.length := by omega
      have hr2 := HR.out.setAt (j := s.i + 2) hi2
      have hb2 := (RBut.refl rb ev.ownBlock w).store 2 (.int .i64 ((s.i + 2 : Nat) : Int))
      rw [Int.natCast_add, show ((2 : Nat) : Int) = 2 from rfl] at hr2 hb2
      have HR2 := Lib.hid hr2
      have HB2 := Lib.hid hb2
      go_upto_region 10 with fail
      clear hr2 hb2 c0 c1 c2 cb cp f2 rbl mbl
      revert HR2 HB2
      generalize w.setCell ⟨rb, 2, none⟩ (.int .i64 ((s.i : Int) + 2)) = w2
      intro HR2 HB2
      by_cases h110 : c = 110
      · have HE := Lib.hid (show escL false L s = .ok [oneN 10] ⟨s.i + 2, s.ended⟩ by rw [HS.out, if_pos h110])
        subst h110
        go_wp2_with fail
        refine (rset5_call (b := 10) (by decide)).mono ?_; rintro e ws ⟨⟨v, rfl, hv⟩, hb⟩
        have HV := Lib.hid hv
        have HR9 := Lib.hid (HR2.out.below hb)
        have HB9 := Lib.hid (HB2.out.below hb)
        clear hv hb
        go_wp2_with fail
        go_ret
        exact ⟨HB9.out, by rw [HE.out]; exact ⟨_, ev, rfl, HR9.out, newOr.refl _ _, HV.out.mono HB2.out.size⟩⟩
      have h110' : ((c : Int) == 110) = false := beq_eq_false_iff_ne.2 (by omega)
      have HS2 := Lib.hid (show escL false L s = _ by rw [HS.out, if_neg h110])
      clear HS h110
      obtain ⟨ow, how⟩ : ∃ b, (ownB false).contains c = b := ⟨_, rfl⟩
      rw [how] at HS2
      have HOW := Lib.hid how
      clear how
      go_wp2_with fail
      refine (ramong_call _ (by decide) c).mono ?_; rintro e w3 ⟨rfl, rfl⟩
      rw [show (bytesOf ⟨#[46, 91, 93, 42, 94, 36, 92, 47]⟩).contains c = ow from HOW.out]
      cases ow with
      | true =>
        have HE := Lib.hid (show escL false L s = .ok [oneN c] ⟨s.i + 2, s.ended⟩ by rw [HS2.out, if_pos rfl])
        go_wp2_with fail
        refine (rset5_call (b := c) hu).mono ?_; rintro e ws ⟨⟨v, rfl, hv⟩, hb⟩
        have HV := Lib.hid hv
        have HR9 := Lib.hid (HR2.out.below hb)
        have HB9 := Lib.hid (HB2.out.below hb)
        clear hv hb
        go_wp2_with fail
        go_ret
        exact ⟨HB9.out, by rw [HE.out]; exact ⟨_, ev, rfl, HR9.out, newOr.refl _ _, HV.out.mono HB2.out.size⟩⟩
      | false =>
        have c0 := HR2.out.c0
        have rbl := HR2.out.lt
        have HS3 := Lib.hid (show escL false L s = _ by rw [HS2.out, if_neg (by decide)])
        clear HS2
        by_cases h49 : c < 49
        · have e1 : decide ((49 : Int) ≤ (c : Int)) = false := decide_eq_false (by omega)
          have HE := Lib.hid (show escL false L s = .no 40 s.i by rw [HS3.out, if_neg (by simp; omega)])
          clear h49
          go_wp2_with fail
          refine (rfail_call HR2.out 40 s.i rfl rfl).mono ?_; rintro e wf ⟨rfl, hnt⟩
          have HNT := Lib.hid hnt
          clear hnt
          go_wp2_with fail
          go_ret
          exact RPost.no HE.out HB2.out HNT.out (by decide)
        by_cases h57 : 57 < c
        · have e1 : decide ((49 : Int) ≤ (c : Int)) = true := decide_eq_true (by omega)
          have e2 : decide ((c : Int) ≤ 57) = false := decide_eq_false (by omega)
          have HE := Lib.hid (show escL false L s = .no 40 s.i by rw [HS3.out, if_neg (by simp; omega)])
          clear h49 h57
          go_wp2_with fail
          refine (rfail_call HR2.out 40 s.i rfl rfl).mono ?_; rintro e wf ⟨rfl, hnt⟩
          have HNT := Lib.hid hnt
          clear hnt
          go_wp2_with fail
          go_ret
          exact RPost.no HE.out HB2.out HNT.out (by decide)
        obtain ⟨d, hd⟩ : ∃ d, c = 49 + d := ⟨c - 49, by omega⟩
        subst hd
        have HS4 := Lib.hid (show escL false L s = if s.ended.length < d + 1 then .no 44 s.i else if !s.ended.getD d false then .no 44 s.i else .ok [refN (d + 1)] ⟨s.i + 2, s.ended⟩ by
          rw [HS3.out, if_pos (by simp; omega), show 49 + d - 48 = d + 1 by omega, Nat.add_sub_cancel])
        have e1 : decide ((49 : Int) ≤ ((49 + d : Nat) : Int)) = true := decide_eq_true (by omega)
        have e2 : decide (((49 + d : Nat) : Int) ≤ 57) = true := decide_eq_true (by omega)
        have e3 : ((49 + d : Nat) : Int) - 48 = (d : Int) + 1 := by omega
        have hd9 : d ≤ 8 := by omega
        generalize hcc : 49 + d = c at e1 e2 e3 ⊢
        clear HS3 h49 h57 hu hcc h110' HOW HM
        have c3 := HR2.out.c3
        by_cases hgr : s.ended.length < d + 1
        · have e4 : (s.ended.length : Int) < (d : Int) + 1 := by omega
          have HE := Lib.hid (show escL false L s = .no 44 s.i by rw [HS4.out, if_pos hgr])
          clear hgr
          go_wp2_with fail
          refine (rfail_call HR2.out 44 s.i rfl rfl).mono ?_; rintro e wf ⟨rfl, hnt⟩
          have HNT := Lib.hid hnt
          clear hnt
          go_wp2_with fail
          go_ret
          exact RPost.no HE.out HB2.out HNT.out (by decide)
        · have e4 : ¬ (s.ended.length : Int) < (d : Int) + 1 := by omega
          have e5 : (d : Int) < (s.ended.length : Int) := by omega
          obtain ⟨g, cp, hev, hg1, hg2⟩ := HR2.out.row (by show 0 < s.ended.length; omega)
          have c4 := HR2.out.c4
          rw [hev] at c4
          have cg : w2.cell? ⟨g, d, none⟩ = some (.bool (s.ended.getD d false)) := by
            rw [World.ownsRow.cellAt (hev ▸ HR2.out.own) _ (by show d < s.ended.length * 1; omega)]
            simp [List.getD_eq_getElem?_getD, show d < s.ended.length by omega]
          obtain ⟨en, hen⟩ : ∃ b, s.ended.getD d false = b := ⟨_, rfl⟩
          rw [hen] at cg
          have HS5 := Lib.hid (show escL false L s = if !en then .no 44 s.i else .ok [refN (d + 1)] ⟨s.i + 2, s.ended⟩ by rw [HS4.out, if_neg hgr, hen])
          have hel : s.ended.length ≤ 255 := HR2.out.el
          clear hgr hen hev HS4
          simp only at c3 c4
          cases en with
          | false =>
            have HE := Lib.hid (show escL false L s = .no 44 s.i from HS5.out)
            go_wp2_with fail
            refine (rfail_call HR2.out 44 s.i rfl rfl).mono ?_; rintro e wf ⟨rfl, hnt⟩
            have HNT := Lib.hid hnt
            clear hnt
            go_wp2_with fail
            go_ret
            exact RPost.no HE.out HB2.out HNT.out (by decide)
          | true =>
            have HE := Lib.hid (show escL false L s = .ok [refN (d + 1)] ⟨s.i + 2, s.ended⟩ from HS5.out)
            have HL := Lib.hid (Nds.lit w2 w.heap.size (refN (d + 1)) HB2.out.size)
            have HR9 := Lib.hid (HR2.out.alloc (.cells (ndCells (refN (d + 1))) 39))
            have HB9 := Lib.hid (HB2.out.alloc (.cells (ndCells (refN (d + 1))) 39))
            have hx : refN (d + 1) = ⟨8, Cls.zero, (d : Int) + 1, 0, 0, 0⟩ := by rw [refN, Int.natCast_add, show ((1 : Nat) : Int) = 1 from rfl]
            rw [hx] at HL HR9 HB9
            have HX := Lib.hid hx
            clear hx
            go_wp2_with fail
            go_ret
            exact ⟨HB9.out, by rw [HE.out]; exact ⟨_, ev, rfl, HR9.out, newOr.refl _ _, by rw [HX.out]; exact HL.out⟩⟩
end
end Go.Proofs.YtbdjcmhfcdamiaaGreatDoor
