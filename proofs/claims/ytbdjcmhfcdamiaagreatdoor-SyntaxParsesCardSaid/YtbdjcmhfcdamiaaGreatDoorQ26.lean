/- Parts: Bd Bg Bj Bi. -/
import Derived.Test.YtbdjcmhfcdamiaaGreatDoorQ22
import Derived.Test.YtbdjcmhfcdamiaaGreatDoorQ19
import Derived.Test.YtbdjcmhfcdamiaaGreatDoorQ25
import Derived.Test.YtbdjcmhfcdamiaaGreatDoorQ27
import Derived.Laws.StructEq
import Derived.Deep.LoopGhost
import Derived.Deep.DeepCutAuto
/- A bag's lists of one kind are written full, gone on with, and looked at. -/
namespace Go.Proofs.YtbdjcmhfcdamiaaGreatDoor
open Go.RowKit
def fM (n i : Nat) : List Value := [.int .u8 ((31 * (n : Int) + 7 * (i : Int) + 3) % 256), .bool true]
theorem st_fM (w : World) (g k n i : Nat) : stAll w g k (fM n i) = ((w.setCell ⟨g, k, none⟩ (.int .u8 ((31 * (n : Int) + 7 * (i : Int) + 3) % 256))).setCell ⟨g, k + 1, none⟩ (.bool true)) := rfl
theorem fM_len (n i : Nat) : (fM n i).length = 2 := rfl
theorem fM_one (n i : Nat) : ∀ u ∈ fM n i, u.oneCell' = true := by
  intro u hu
  simp only [fM, List.mem_cons, List.not_mem_nil, or_false] at hu
  rcases hu with rfl | rfl | rfl | rfl | rfl | rfl | rfl | rfl | rfl <;> rfl
abbrev BgM (w : World) (base : Nat) (vs : List Value) (ns : List Nat) (X : Nat → List Value) (gb : Nat) (bv : Value) : Prop := Bgl w base 33 26 2 vs ns X gb 4 bv
theorem elSM : ElT Tryz.prog 45 26 1 24 (.slice none 0 0) := ⟨Tryz.underlying45, by kernel_rfl, rfl, by decide⟩
theorem eqlM (n i : Nat) (w : World) : (binOp .eql 33 (.agg #[.int .u8 ((31 * (n : Int) + 7 * (i : Int) + 3) % 256), .bool true]) (.agg #[.int .u8 ((31 * (n : Int) + 7 * (i : Int) + 3) % 256), .bool true])).run Tryz.prog w = .ok (.bool true) w := by
  rw [run_eql_struct]
  simp [go_sem]
section
variable {w : World} {base : Nat} {vs : List Value} {ns : List Nat} {X : Nat → List Value} {gb : Nat} {bv : Value}
set_option maxRecDepth 100000 in
set_option maxHeartbeats 6400000 in
theorem apartMarks_call {ob : Option Addr} {cb : Nat} (hb0 : base ≤ w.heap.size) (hm : vs.length ≤ 400) (hn : ∀ (i n : Nat), ns[i]? = some n → n ≤ 4294967296) (hB : BgM w base vs ns X gb (.slice ob vs.length cb)) :
    Calls Tryz.prog 40 #[.pointer (some ⟨gb, 0, none⟩)] w fun e w' => e = .returned (.bool true) ∧ Kept w w' (Blk vs) ∧ BgM w' base vs ns (fun i => Mc fM i (ns.getD i 0)) gb (.slice ob vs.length cb) := by
  have HB := Lib.hid hB
  have HN := Lib.hid hn
  clear hB hn
  go_enter Tryz.func40, Tryz.ntmps40
  go_wp2_with fail
  go_loopg [3] vs.length (fun k iv wr => ∃ (d : Nat) (Y : Nat → List Value), iv = .int .i64 (d : Nat) ∧ k = vs.length - d ∧ d ≤ vs.length ∧ BgM wr base vs ns Y gb (.slice ob vs.length cb) ∧ (∀ j, j < d → Y j = Mc fM j (ns.getD j 0)) ∧ Kept w wr (Blk vs))
  case atStart => exact ⟨0, X, rfl, by omega, by omega, HB.out, fun j hj => by omega, Kept.refl _ _⟩
  case round =>
    obtain ⟨d, Y, rfl, hg, hd, hb, hy, hk⟩ := hrel
    have HG := Lib.hid hg
    have HBY := Lib.hid hb
    have HY := Lib.hid hy
    have HK := Lib.hid hk
    clear hg hb hy hk
    have c0 := HBY.out.c
    have cl := HBY.out.cl
    by_cases hlt : d < vs.length
    · have hlt' : (d : Int) < (vs.length : Int) := by omega
      obtain ⟨v, hv⟩ : ∃ v, vs[d]? = some v := ⟨_, List.getElem?_eq_getElem hlt⟩
      obtain ⟨n, hnn⟩ : ∃ n, ns[d]? = some n := ⟨_, List.getElem?_eq_getElem (by rw [HBY.out.len]; exact hlt)⟩
      obtain ⟨o, cv, rfl⟩ := own_form (HBY.out.a d v n hv hnn)
      obtain ⟨gl, rfl, hgl, hcl⟩ := HBY.out.rows hlt
      have hc := hcl d _ hv
      have HV := Lib.hid hv
      have HNN := Lib.hid hnn
      have hnb := HN.out d n hnn
      clear hv hnn hcl
      go_wp2_with fail
      obtain ⟨wo, rfl⟩ : ∃ wo : World, wo = wr := ⟨_, rfl⟩
      go_loopg [4] n (fun k jv wr => ∃ (e : Nat) (Y : Nat → List Value), jv = .int .i64 (e : Nat) ∧ k = n - e ∧ e ≤ n ∧ BgM wr base vs ns Y gb (.slice (some ⟨gl, 0, none⟩) vs.length cb) ∧ (∀ j, j < d → Y j = Mc fM j (ns.getD j 0)) ∧ (Y d).take (e * 2) = Mc fM d e ∧ Kept w wr (Blk vs))
      case atStart => exact ⟨0, Y, rfl, by omega, by omega, HBY.out, HY.out, by simp [Mc], HK.out⟩
      case round =>
        clear c0 cl hgl hc HBY HY HK
        obtain ⟨e, Y2, rfl, hg, he, hb, hy, ht, hk⟩ := hrel
        have HG2 := Lib.hid hg
        have HBY := Lib.hid hb
        have HY := Lib.hid hy
        have HT := Lib.hid ht
        have HK := Lib.hid hk
        have c0 := hb.c
        have cl := hb.cl
        obtain ⟨gl', hgl', hgl, hcl⟩ := hb.rows hlt
        cases hgl'
        have hc := hcl d _ HV.out
        have hr := hb.a d _ n HV.out HNN.out
        clear hg hb hy ht hk hcl
        by_cases hle : e < n
        · have hle' : (e : Int) < (n : Int) := by omega
          obtain ⟨_, g, rfl, hgg, hcc, hfz⟩ := own_some hr (by omega)
          obtain ⟨z0, _, y0⟩ := hcc (e * 2) (by omega)
          have zf0 := hfz (e * 2)
          obtain ⟨z1, _, y1⟩ := hcc (e * 2 + 1) (by omega)
          have zf1 := hfz (e * 2 + 1)
          clear hr hcc hfz
          have hlen : (Y2 d).length = n * 2 := (HBY.out.a d _ n HV.out HNN.out).1
          have HL := Lib.hid hlen
          clear hlen
          go_wp2_with fail
          have hp := HBY.out.put HV.out HNN.out (e * 2) (fM d e)
          rw [st_fM] at hp
          have HP := Lib.hid hp
          clear hp
          go_roundg (n - (e + 1))
          case measure => have := HG2.out; omega
          case rel =>
            refine ⟨e + 1, _, by go_num, rfl, by omega, HP.out.1, fun j hj => ?_, ?_, (HK.out.trans HP.out.2 fun _ _ h => h)⟩
            · rw [if_neg (by omega)]; exact HY.out j hj
            · rw [if_pos rfl]
              exact fill_step HL.out hle HT.out (by omega) rfl
        · have hle' : ¬ (e : Int) < (n : Int) := by omega
          clear hr
          go_wp2_with fail
          go_roundg (vs.length - (d + 1))
          case measure => have := HG.out; omega
          case rel => 
            refine ⟨d + 1, Y2, by go_num, rfl, by omega, HBY.out, fun j hj => ?_, HK.out⟩
            by_cases hjd : j < d
            · exact HY.out j hjd
            · obtain rfl : j = d := by omega
              have h1 := HT.out
              obtain rfl : e = n := by omega
              rw [List.take_of_length_le (by rw [(HBY.out.a j _ e HV.out HNN.out).1]; exact Nat.le_refl _)] at h1
              rw [h1, List.getD_eq_getElem?_getD, HNN.out]; rfl
    · have hlt' : ¬ (d : Int) < (vs.length : Int) := by omega
      obtain rfl : d = vs.length := by omega
      have hX : BgM wr base vs ns (fun i => Mc fM i (ns.getD i 0)) gb (.slice ob vs.length cb) := by
        have b := HBY.out
        exact ⟨b.len, fun i v n hv hn => by have := b.a i v n hv hn; rw [HY.out i (List.getElem?_eq_some_iff.1 hv).1] at this; exact this, b.ap, b.r, b.ra, b.c, b.cl, b.ca, b.rc⟩
      have HX := Lib.hid hX
      have hb1 : base ≤ wr.heap.size := Nat.le_trans hb0 HK.out.size
      clear hX HB HBY HY hd
      go_wp2_with fail
      obtain ⟨w1, rfl⟩ : ∃ w1 : World, w1 = wr := ⟨_, rfl⟩
      obtain ⟨tag0, hG0⟩ := Gr.start HX.out
      have HG0 := Lib.hid hG0
      clear hG0
      go_loopg [5, 6, 7] vs.length (fun k ov lv iv wr => ∃ (d : Nat) (tag : Nat → Nat) (os ls : List Value), iv = .int .i64 (d : Nat) ∧ k = vs.length - d ∧ os.length = d ∧ ls.length = d ∧ Gr w1 wr base 33 26 2 vs ns fM gb 4 (.slice ob vs.length cb) tag os ls ov lv)
      case atStart => exact ⟨0, tag0, [], [], rfl, by omega, rfl, rfl, HG0.out⟩
      case round =>
        clear HG0 c0 cl
        obtain ⟨d, tag, os, ls, rfl, hg, hos, hls, hG⟩ := hrel
        have HG2 := Lib.hid hg
        have HGr := Lib.hid hG
        have HOS := Lib.hid hos
        have HLS := Lib.hid hls
        have c0 := hG.g.c
        have cl := hG.g.cl
        have hdm : d ≤ vs.length := by rw [← hos]; exact hG.ol
        have hbr : base ≤ wr.heap.size := Nat.le_trans hb1 hG.kp.size
        clear hg hG hos hls
        by_cases hlt : d < vs.length
        · have hlt' : (d : Int) < (vs.length : Int) := by omega
          obtain ⟨v, hv⟩ : ∃ v, vs[d]? = some v := ⟨_, List.getElem?_eq_getElem hlt⟩
          obtain ⟨n, hnn⟩ : ∃ n, ns[d]? = some n := ⟨_, List.getElem?_eq_getElem (by rw [HGr.out.g.len]; exact hlt)⟩
          have hnd : ns.getD d 0 = n := by rw [List.getD_eq_getElem?_getD, hnn]; rfl
          have hrow := HGr.out.g.a d v n hv hnn
          simp only [hnd] at hrow
          obtain ⟨o, cv, rfl⟩ := own_form hrow
          have HR0 := Lib.hid hrow
          have HT0 := Lib.hid (HGr.out.tv d _ hv)
          obtain ⟨gl, rfl, hgl, hcl⟩ := HGr.out.g.rows hlt
          have hc := hcl d _ hv
          have HV := Lib.hid hv
          have HNN := Lib.hid hnn
          have HND := Lib.hid hnd
          have hnb := HN.out d n hnn
          clear hv hnn hnd hcl hrow
          go_wp2_with fail
          obtain ⟨wo, rfl⟩ : ∃ wo : World, wo = wr := ⟨_, rfl⟩
          go_loopg [5, 8, 9] 70 (fun k ov l jv wr => ∃ (e : Nat) (tag : Nat → Nat) (os : List Value), jv = .int .i64 (e : Nat) ∧ k = n + 70 - e ∧ n ≤ e ∧ e ≤ n + 70 ∧ (e = n → os.length = d) ∧ (n < e → os.length = d + 1) ∧ Gr w1 wr base 33 26 2 vs ns fM gb 4 (.slice (some ⟨gl, 0, none⟩) vs.length cb) tag os ls ov u6 ∧ wr.ownsRow base 33 2 l e (Mc fM d e) ∧ Tg tag d l)
          case atStart => exact ⟨n, tag, os, rfl, by omega, by omega, by omega, fun _ => HOS.out, fun h => by omega, HGr.out, HR0.out, HT0.out⟩
          case round =>
            clear c0 cl hgl hc HGr HR0 HT0 hbr
            obtain ⟨e, tag, os, rfl, hg, hne, hen, hos1, hos2, hG, hl, ht⟩ := hrel
            have HG3 := Lib.hid hg
            have HGr := Lib.hid hG
            have HOS1 := Lib.hid hos1
            have HOS2 := Lib.hid hos2
            have HL := Lib.hid hl
            have HT := Lib.hid ht
            have c0 := hG.g.c
            have cl := hG.g.cl
            have hbr : base ≤ wr.heap.size := Nat.le_trans hb1 hG.kp.size
            obtain ⟨gl', hgl', hgl, hcl⟩ := hG.g.rows hlt
            cases hgl'
            have hc := hcl d _ HV.out
            clear hg hG hos1 hos2 hl ht hcl
            by_cases hle : e < n + 70
            · have hle' : (e : Int) < (n : Int) + 70 := by omega
              go_wp2_with (at_builtin; refine wpList_app2 elMk rfl _ _ rfl base (n := e) (m := 1) (xs := Mc fM d e) (news := fM d e) rfl (HL.out.alloc _) rfl rfl (newAt wr (fM d e) _) rfl (fM_one d e) (by unfold maxLen; omega) (by omega) (by simp; omega) ?_)
              intro v1 w2 hown hgr hbk hold
              obtain ⟨tag2, hG2, hT2⟩ := (HGr.out.lt (.cells (fM d e).toArray 33)).grow (by decide) hlt HLS.out.symm (by rw [HND.out]; exact hne) (fun h => by rw [HND.out]; by_cases h2 : e = n; (have := HOS1.out h2; omega); omega) (HL.out.alloc _) HT.out hgr (by simpa using hbk) hold
              have HG4 := Lib.hid hG2
              have HT2 := Lib.hid hT2
              have HL2 := Lib.hid (show w2.ownsRow base 33 2 v1 (e + 1) (Mc fM d (e + 1)) by rw [Mc_succ]; exact hown)
              clear c0 cl hc hgl hown hgr hbk hold hG2 hT2 HGr HL HT hbr
              have c0 := HG4.out.g.c
              have cl := HG4.out.g.cl
              obtain ⟨gl', hgl', hgl, hcl⟩ := HG4.out.g.rows hlt
              cases hgl'
              have hc := hcl d _ HV.out
              clear hcl
              by_cases hee : e = n
              · have hee' : ((e : Int) == (n : Int)) = true := by rw [hee]; exact beq_self_eq_true _
                have HE := Lib.hid hee
                clear hee
                obtain ⟨o1, c1, rfl⟩ := own_form HL2.out
                go_wp2_with (at_builtin; refine wpList_app2 elSM rfl _ _ rfl w1.heap.size (n := os.length) (m := 1) (xs := os) (news := [.slice o1 (e + 1) c1]) rfl (HG4.out.ov.1.alloc _) rfl rfl (newAt w2 [.slice o1 (e + 1) c1] _) rfl (by simpa using own_one HL2.out) (by unfold maxLen; have := HOS1.out HE.out; omega) (by have := HOS1.out HE.out; omega) (by have := HG4.out.kp.size; simp; omega) ?_)
                intro v2 w3 hown hgr hbk _
                obtain ⟨tag3, hG5, hT3, hL3⟩ := (HG4.out.lt (.cells [.slice o1 (e + 1) c1].toArray 26)).one hlt (HOS1.out HE.out).symm (by rw [HND.out, ← HE.out]; exact HL2.out.alloc _) HT2.out hgr (by simpa using hbk) hown
                have HG5 := Lib.hid hG5
                have HT3 := Lib.hid hT3
                have HL3 := Lib.hid hL3
                clear hown hgr hbk hG5 hT3 hL3 c0 cl hgl hc
                go_wp2_with fail
                go_roundg (n + 70 - (e + 1))
                case measure => have := HG3.out; omega
                case rel => exact ⟨e + 1, tag3, os ++ [.slice o1 (e + 1) c1], by go_num, rfl, by omega, by omega, fun h => by have := HE.out; omega, fun _ => by rw [List.length_append, HOS1.out HE.out]; rfl, HG5.out, by rw [HND.out, ← HE.out] at HL3; exact HL3.out, HT3.out⟩
              · have hee' : ((e : Int) == (n : Int)) = false := beq_eq_false_iff_ne.2 (by omega)
                have HE := Lib.hid hee
                clear hee
                go_wp2_with fail
                go_roundg (n + 70 - (e + 1))
                case measure => have := HG3.out; omega
                case rel => exact ⟨e + 1, tag2, os, by go_num, rfl, by omega, by omega, fun h => by omega, fun _ => HOS2.out (by have := HE.out; omega), HG4.out, HL2.out, HT2.out⟩
            · have hle' : ¬ (e : Int) < (n : Int) + 70 := by omega
              obtain rfl : e = n + 70 := by omega
              obtain ⟨o1, c1, rfl⟩ := own_form HL.out
              go_wp2_with (at_builtin; refine wpList_app2 elSM rfl _ _ rfl w1.heap.size (n := ls.length) (m := 1) (xs := ls) (news := [.slice o1 (n + 70) c1]) rfl (HGr.out.lv.1.alloc _) rfl rfl (newAt wr [.slice o1 (n + 70) c1] _) rfl (by simpa using own_one HL.out) (by unfold maxLen; have := HLS.out; omega) (by have := HLS.out; omega) (by have := HGr.out.kp.size; simp; omega) ?_)
              intro v2 w3 hown hgr hbk _
              obtain ⟨tag3, hG5⟩ := (HGr.out.lt (.cells [.slice o1 (n + 70) c1].toArray 26)).many hlt HLS.out.symm (by have := HOS2.out (by omega); omega) (by rw [HND.out]; exact HL.out.alloc _) HT.out hgr (by simpa using hbk) hown
              have HG5 := Lib.hid hG5
              clear hown hgr hbk hG5 c0 cl hgl hc
              go_wp2_with fail
              go_roundg (vs.length - (d + 1))
              case measure => have := HG2.out; omega
              case rel => exact ⟨d + 1, tag3, os, ls ++ [.slice o1 (n + 70) c1], by go_num, rfl, HOS2.out (by omega), by rw [List.length_append, HLS.out]; rfl, HG5.out⟩
        · have hlt' : ¬ (d : Int) < (vs.length : Int) := by omega
          obtain rfl : d = vs.length := by omega
          obtain ⟨w2, rfl⟩ : ∃ w2 : World, w2 = wr := ⟨_, rfl⟩
          have hlv := HGr.out.lv.1
          have hov := HGr.out.ov.1
          rw [HLS.out] at hlv
          rw [HOS.out] at hov
          obtain ⟨oL, cL, rfl⟩ := own_form hlv
          obtain ⟨oO, cO, rfl⟩ := own_form hov
          have HLV := Lib.hid hlv
          have HOV := Lib.hid hov
          clear hlv hov
          go_wp2_with fail
          go_loopg [10] vs.length (fun k iv wr => ∃ d : Nat, iv = .int .i64 (d : Nat) ∧ k = vs.length - d ∧ d ≤ vs.length ∧ Below w2.heap.size w2 wr)
          case atStart => exact ⟨0, rfl, by omega, by omega, Below.refl _ _⟩
          case round =>
            obtain ⟨d, rfl, hg, hd, hbw⟩ := hrel
            have HG6 := Lib.hid hg
            have HBW := Lib.hid hbw
            have c0 := (hbw.cell (p := ⟨gb, 4, none⟩) HGr.out.g.cl).trans HGr.out.g.c
            have cl := Nat.lt_of_lt_of_le HGr.out.g.cl hbw.size
            clear hg hbw
            by_cases hlt : d < vs.length
            · have hlt' : (d : Int) < (vs.length : Int) := by omega
              obtain ⟨v, hv⟩ : ∃ v, vs[d]? = some v := ⟨_, List.getElem?_eq_getElem hlt⟩
              obtain ⟨n, hnn⟩ : ∃ n, ns[d]? = some n := ⟨_, List.getElem?_eq_getElem (by rw [HGr.out.g.len]; exact hlt)⟩
              have hnd : ns.getD d 0 = n := by rw [List.getD_eq_getElem?_getD, hnn]; rfl
              have hrow := HGr.out.g.a d v n hv hnn
              simp only [hnd] at hrow
              obtain ⟨lv, hlv⟩ : ∃ lv, ls[d]? = some lv := ⟨_, List.getElem?_eq_getElem (by rw [HLS.out]; exact hlt)⟩
              obtain ⟨ov, hov⟩ : ∃ ov, os[d]? = some ov := ⟨_, List.getElem?_eq_getElem (by rw [HOS.out]; exact hlt)⟩
              have hrl := (HGr.out.l d lv n hlv hnn).1
              have hro := (HGr.out.o d ov n hov hnn).1
              obtain ⟨o1, c1, rfl⟩ := own_form hrow
              obtain ⟨o2, c2, rfl⟩ := own_form hrl
              obtain ⟨o3, c3, rfl⟩ := own_form hro
              obtain ⟨gl, rfl, hgl, hcl⟩ := HGr.out.g.rows hlt
              obtain ⟨gL, rfl, hgL, hcL⟩ := row_cell HLV.out hlt hlv
              obtain ⟨gO, rfl, hgO, hcO⟩ := row_cell HOV.out hlt hov
              have HC0 := Lib.hid (hcl d _ hv)
              have HCL := Lib.hid hcL
              have HCO := Lib.hid hcO
              have HGL := Lib.hid hgl
              have HGLL := Lib.hid hgL
              have HGO := Lib.hid hgO
              have hc := (HBW.out.cell (p := ⟨gl, d, none⟩) HGL.out).trans HC0.out
              have hcL' := (HBW.out.cell (p := ⟨gL, d, none⟩) HGLL.out).trans HCL.out
              have hgl' := Nat.lt_of_lt_of_le hgl HBW.out.size
              have hgL' := Nat.lt_of_lt_of_le hgL HBW.out.size
              have HR1 := Lib.hid hrow
              have HR2 := Lib.hid hrl
              have HR3 := Lib.hid hro
              have hnb := HN.out d n hnn
              clear hv hnn hnd hcl hrow hrl hro hlv hov hcL hcO hgl hgL hgO
              go_wp2_with fail
              obtain ⟨w3, rfl⟩ : ∃ w3 : World, w3 = wr := ⟨_, rfl⟩
              go_loopg [11, 12, 13] (n + 70) (fun k jv _ _ wr => ∃ e : Nat, jv = .int .i64 (e : Nat) ∧ k = n + 70 - e ∧ e ≤ n + 70 ∧ Below w2.heap.size w2 wr)
              case atStart => exact ⟨0, rfl, by omega, by omega, HBW.out⟩
              case round =>
                clear c0 cl hc hcL' hgl' hgL' HBW
                obtain ⟨e, rfl, hg, he, hbw⟩ := hrel
                have HG7 := Lib.hid hg
                have HBW := Lib.hid hbw
                have c0 := (hbw.cell (p := ⟨gb, 4, none⟩) HGr.out.g.cl).trans HGr.out.g.c
                have cl := Nat.lt_of_lt_of_le HGr.out.g.cl hbw.size
                have hc := (hbw.cell (p := ⟨gl, d, none⟩) HGL.out).trans HC0.out
                have hcL' := (hbw.cell (p := ⟨gL, d, none⟩) HGLL.out).trans HCL.out
                have hgl' := Nat.lt_of_lt_of_le HGL.out hbw.size
                have hgL' := Nat.lt_of_lt_of_le HGLL.out hbw.size
                have hws := hbw.size
                clear hg hbw
                by_cases hle : e < n + 70
                · have hle' : (e : Int) < (n : Int) + 70 := by omega
                  obtain ⟨g2, rfl, hg2, hc2⟩ := mc_cell fM_len (row_of_block HR2.out fun b hb => HBW.out.block b (HR2.out.lt b hb).2) hle
                  have z0 := hc2 0 (e * 2) (by decide) (by omega)
                  have z1 := hc2 1 (e * 2 + 1) (by decide) (by omega)
                  simp only [fM, List.getElem?_cons_zero, List.getElem?_cons_succ] at z0 z1
                  clear hc2
                  have hq := eqlM d e
                  by_cases hen : e < n
                  · have hen' : (e : Int) < (n : Int) := by omega
                    have hne' : ((e : Int) == (n : Int)) = false := beq_eq_false_iff_ne.2 (by omega)
                    obtain ⟨g1, rfl, hg1, hc1⟩ := mc_cell fM_len (row_of_block HR1.out fun b hb => HBW.out.block b (HR1.out.lt b hb).2) hen
                    have y0 := hc1 0 (e * 2) (by decide) (by omega)
                    have y1 := hc1 1 (e * 2 + 1) (by decide) (by omega)
                    simp only [fM, List.getElem?_cons_zero, List.getElem?_cons_succ] at y0 y1
                    clear hc1
                    go_wp2_with fail
                    go_roundg (n + 70 - (e + 1))
                    case measure => have := HG7.out; omega
                    case rel => exact ⟨e + 1, by go_num, rfl, by omega, (by have b := HBW.out; clear HBW; exact (by repeat (first | exact Below.refl _ _ | assumption | refine Below.drew ?_ | refine Below.alloc ?_ (by first | (simp; done) | (simp; omega) | omega) _ | refine Below.setCell ?_ (by first | (simp; done) | (simp; omega) | omega) _)))⟩
                  · have hen' : ¬ (e : Int) < (n : Int) := by omega
                    by_cases hee : e = n
                    · have hne' : ((e : Int) == (n : Int)) = true := by rw [hee]; exact beq_self_eq_true _
                      have HE := Lib.hid hee
                      have hlo : (e : Int) < (n : Int) + 1 := by omega
                      obtain ⟨g3, rfl, hg3, hc3⟩ := mc_cell fM_len (row_of_block HR3.out fun b hb => HBW.out.block b (HR3.out.lt b hb).2) (show e < n + 1 by omega)
                      have y0 := hc3 0 (e * 2) (by decide) (by omega)
                      have y1 := hc3 1 (e * 2 + 1) (by decide) (by omega)
                      simp only [fM, List.getElem?_cons_zero, List.getElem?_cons_succ] at y0 y1
                      have hcO' := (HBW.out.cell (p := ⟨gO, d, none⟩) HGO.out).trans HCO.out
                      have hgO' := Nat.lt_of_lt_of_le HGO.out hws
                      clear hc3 hee
                      go_wp2_with fail
                      go_roundg (n + 70 - (e + 1))
                      case measure => have := HG7.out; omega
                      case rel => exact ⟨e + 1, by go_num, rfl, by omega, (by have b := HBW.out; clear HBW; exact (by repeat (first | exact Below.refl _ _ | assumption | refine Below.drew ?_ | refine Below.alloc ?_ (by first | (simp; done) | (simp; omega) | omega) _ | refine Below.setCell ?_ (by first | (simp; done) | (simp; omega) | omega) _)))⟩
                    · have hne' : ((e : Int) == (n : Int)) = false := beq_eq_false_iff_ne.2 (by omega)
                      clear hee
                      go_wp2_with fail
                      go_roundg (n + 70 - (e + 1))
                      case measure => have := HG7.out; omega
                      case rel => exact ⟨e + 1, by go_num, rfl, by omega, (by have b := HBW.out; clear HBW; exact (by repeat (first | exact Below.refl _ _ | assumption | refine Below.drew ?_ | refine Below.alloc ?_ (by first | (simp; done) | (simp; omega) | omega) _ | refine Below.setCell ?_ (by first | (simp; done) | (simp; omega) | omega) _)))⟩
                · have hle' : ¬ (e : Int) < (n : Int) + 70 := by omega
                  go_wp2_with fail
                  go_roundg (vs.length - (d + 1))
                  case measure => have := HG6.out; omega
                  case rel => exact ⟨d + 1, by go_num, rfl, by omega, HBW.out⟩
            · have hlt' : ¬ (d : Int) < (vs.length : Int) := by omega
              go_wp2_with fail
              go_ret
              exact ⟨rfl, (HK.out.trans HGr.out.kp fun _ _ h => h).trans (Kept.of_below HBW.out (fun _ => False) fun j h1 h2 => by omega) fun _ _ h => h.elim, HGr.out.g.kept (Kept.of_below HBW.out (fun _ => False) fun j h1 h2 => by omega) fun _ h => h.elim⟩
end
end Go.Proofs.YtbdjcmhfcdamiaaGreatDoor

/- The bag: it takes lists in, and tells whether they lie apart. -/
namespace Go.Proofs.YtbdjcmhfcdamiaaGreatDoor
open Go.RowKit

def bagC (bb bm bn : Value) : Array Value := #[bb, .slice none 0 0, .slice none 0 0, .slice none 0 0, bm, .slice none 0 0, .slice none 0 0, .slice none 0 0, bn, .slice none 0 0, .slice none 0 0, .slice none 0 0, .slice none 0 0, .slice none 0 0, .slice none 0 0, .slice none 0 0, .slice none 0 0, .slice none 0 0, .slice none 0 0]
def bagAt (w : World) (gb : Nat) (bb bm bn : Value) : Prop := w.heap[gb]? = some (.cells (bagC bb bm bn) 61 (0, 0))
theorem bagAt.lt {w : World} {gb : Nat} {bb bm bn : Value} (h : bagAt w gb bb bm bn) : gb < w.heap.size := (Array.getElem?_eq_some_iff.1 h).1
theorem bagAt.cell {w : World} {gb : Nat} {bb bm bn : Value} (h : bagAt w gb bb bm bn) (i : Nat) : w.cell? ⟨gb, i, none⟩ = (bagC bb bm bn)[i]? := cell_of_row w gb i _ _ _ h
theorem bagAt.frozen {w : World} {gb : Nat} {bb bm bn : Value} (h : bagAt w gb bb bm bn) (i : Nat) : w.frozen? ⟨gb, i, none⟩ = false := by
  simp only [World.frozen?]
  rw [show w.heap[(⟨gb, i, none⟩ : Addr).block]? = w.heap[gb]? from rfl, h]
  simp
theorem bagAt.kept {w w' : World} {gb : Nat} {bb bm bn : Value} (h : bagAt w gb bb bm bn) {S : Nat → Prop} (k : Kept w w' S) (hS : ¬ S gb) : bagAt w' gb bb bm bn := (k.block gb h.lt hS).trans h
theorem bagAt.new (w : World) : bagAt (w.alloc (.cells (bagC (.slice none 0 0) (.slice none 0 0) (.slice none 0 0)) 61)) w.heap.size (.slice none 0 0) (.slice none 0 0) (.slice none 0 0) := heap_alloc_new w _
theorem bagAt.setB {w : World} {gb : Nat} {bb bm bn : Value} (h : bagAt w gb bb bm bn) (v : Value) : bagAt (w.setCell ⟨gb, 0, none⟩ v) gb v bm bn := by
  unfold bagAt at h ⊢
  simp only [World.setCell, Array.getElem?_modify, h, if_true, Option.map_some]
  rfl
theorem bagAt.setM {w : World} {gb : Nat} {bb bm bn : Value} (h : bagAt w gb bb bm bn) (v : Value) : bagAt (w.setCell ⟨gb, 4, none⟩ v) gb bb v bn := by
  unfold bagAt at h ⊢
  simp only [World.setCell, Array.getElem?_modify, h, if_true, Option.map_some]
  rfl
theorem bagAt.setN {w : World} {gb : Nat} {bb bm bn : Value} (h : bagAt w gb bb bm bn) (v : Value) : bagAt (w.setCell ⟨gb, 8, none⟩ v) gb bb bm v := by
  unfold bagAt at h ⊢
  simp only [World.setCell, Array.getElem?_modify, h, if_true, Option.map_some]
  rfl
set_option maxRecDepth 100000 in
set_option maxHeartbeats 1600000 in
theorem addMarks_call {w : World} {gb : Nat} {bb bm bn : Value} (h : bagAt w gb bb bm bn) {vs : List Value} (hr : w.ownsRow (gb + 1) 26 1 bm vs.length vs) (hl : vs.length < 400) (o : Option Addr) (n c : Nat) :
    Calls Tryz.prog 14 #[.pointer (some ⟨gb, 0, none⟩), .slice o n c] w fun e w' => e = .returned (.tuple #[]) ∧ ∃ b', bagAt w' gb bb b' bn ∧ w'.ownsRow (gb + 1) 26 1 b' (vs ++ [Value.slice o n c]).length (vs ++ [.slice o n c]) ∧ Kept w w' (fun k => k = gb ∨ bm.ownBlock = some k) ∧ (b'.ownBlock = bm.ownBlock ∨ ∃ k, b'.ownBlock = some k ∧ w.heap.size ≤ k) := by
  have c0 := h.cell 4
  rw [show (bagC bb bm bn)[4]? = some bm from rfl] at c0
  have zf := h.frozen 4
  have gl := h.lt
  obtain ⟨ob, cb, hf⟩ := own_form hr
  subst hf
  have H := Lib.hid h
  have HR := Lib.hid hr
  have hl' : (vs.length : Int) < 400 := by omega
  clear h hr
  go_enter Tryz.func14, Tryz.ntmps14
  go_wp2_with (at_builtin; refine wpList_app2 elSM rfl _ _ rfl (gb + 1) (n := vs.length) (m := 1) (xs := vs) (news := [.slice o n c]) rfl (HR.out.alloc _) rfl rfl (newAt w [.slice o n c] _) rfl (by simp [Value.oneCell']) (by unfold maxLen; omega) (by omega) (by simp; omega) ?_)
  intro v1 w1 hown hgr hbk _
  obtain ⟨o1, c1, rfl⟩ := own_form hown
  have hne : ∀ k, (Value.slice ob vs.length cb).ownBlock = some k → k ≠ gb := fun k hk e => by have := (HR.out.lt k hk).1; omega
  have hk1 : Kept w w1 (fun k => (Value.slice ob vs.length cb).ownBlock = some k) := (Kept.alloc w _ _).trans (Kept.of_grown hgr) fun _ _ e => e.symm
  have h1 := H.out.kept hk1 (fun e => hne _ e rfl)
  have c0 := h1.cell 4
  rw [show (bagC _ _ _)[4]? = some (Value.slice ob vs.length cb) from rfl] at c0
  have zf := h1.frozen 4
  have gl1 := h1.lt
  have H1 := Lib.hid (h1.setM (.slice o1 (vs.length + 1) c1))
  have HK : Hid (Kept w (w1.setCell ⟨gb, 4, none⟩ (.slice o1 (vs.length + 1) c1)) (fun k => k = gb ∨ (Value.slice ob vs.length cb).ownBlock = some k)) := (hk1.mono fun _ _ e => .inr e).trans (Kept.setCell w1 ⟨gb, 4, none⟩ (.slice o1 (vs.length + 1) c1)) fun _ _ e => .inl e
  have HO := Lib.hid ((Kept.setCell w1 ⟨gb, 4, none⟩ (.slice o1 (vs.length + 1) c1)).row hown fun k hk e => by have := (hown.lt k hk).1; have e' : k = gb := e; omega)
  have HBk := Lib.hid hbk
  clear hown hgr hbk hk1 h1
  go_wp2_with fail
  go_end0
  refine ⟨rfl, _, H1.out, by rw [List.length_append]; exact HO.out, HK.out, ?_⟩
  rcases HBk.out with h | h
  · exact .inl h
  · exact .inr ⟨_, h, by simp⟩
end Go.Proofs.YtbdjcmhfcdamiaaGreatDoor

/- The bag's lists lie apart. -/
namespace Go.Proofs.YtbdjcmhfcdamiaaGreatDoor
open Go.RowKit

/-- A bag with bytes, marks and nodes. -/
structure Bag3 (w : World) (base gb : Nat) (vb : List Value) (nb : List Nat) (Xb : Nat → List Value) (bb : Value) (vm : List Value) (nm : List Nat) (Xm : Nat → List Value) (bm : Value) (vn : List Value) (nn : List Nat) (Xn : Nat → List Value) (bn : Value) : Prop where
  at_ : bagAt w gb bb bm bn
  b : BgB w base vb nb Xb gb bb
  m : BgM w base vm nm Xm gb bm
  n : BgN w base vn nn Xn gb bn
  bm' : ∀ k, Blk vb k → ¬ Blk vm k ∧ bm.ownBlock ≠ some k
  bn' : ∀ k, Blk vb k → ¬ Blk vn k ∧ bn.ownBlock ≠ some k
  mb' : ∀ k, Blk vm k → ¬ Blk vb k ∧ bb.ownBlock ≠ some k
  mn' : ∀ k, Blk vm k → ¬ Blk vn k ∧ bn.ownBlock ≠ some k
  nb' : ∀ k, Blk vn k → ¬ Blk vb k ∧ bb.ownBlock ≠ some k
  nm' : ∀ k, Blk vn k → ¬ Blk vm k ∧ bm.ownBlock ≠ some k
theorem Bgl.not_gb {w : World} {base : Nat} {e es : TypeId} {size : Nat} {vs : List Value} {ns : List Nat} {X : Nat → List Value} {gb fld : Nat} {bv : Value} (h : Bgl w base e es size vs ns X gb fld bv) : ∀ k, Blk vs k → k ≠ gb := fun k ⟨i, v, hv, hb⟩ e => h.ca i v hv (by rw [hb, e])
section
variable {w : World} {base gb : Nat} {vb : List Value} {nb : List Nat} {Xb : Nat → List Value} {bb : Value} {vm : List Value} {nm : List Nat} {Xm : Nat → List Value} {bm : Value} {vn : List Value} {nn : List Nat} {Xn : Nat → List Value} {bn : Value}
set_option maxRecDepth 100000 in
set_option maxHeartbeats 6400000 in
theorem Apart_call (hb0 : base ≤ w.heap.size) (lb : vb.length ≤ 400) (lm : vm.length ≤ 400) (ln : vn.length ≤ 400) (zb : ∀ (i n : Nat), nb[i]? = some n → n ≤ 4294967296) (zm : ∀ (i n : Nat), nm[i]? = some n → n ≤ 4294967296) (zn : ∀ (i n : Nat), nn[i]? = some n → n ≤ 4294967296)
    (h : Bag3 w base gb vb nb Xb bb vm nm Xm bm vn nn Xn bn) :
    Calls Tryz.prog 16 #[.pointer (some ⟨gb, 0, none⟩)] w fun e w' => e = .returned (.bool true) ∧ Kept w w' (fun k => Blk vb k ∨ Blk vm k ∨ Blk vn k) ∧
      Bag3 w' base gb vb nb (fun i => Mc fB i (nb.getD i 0)) bb vm nm (fun i => Mc fM i (nm.getD i 0)) bm vn nn (fun i => Mc fN i (nn.getD i 0)) bn := by
  obtain ⟨ob, cb, hfb⟩ := own_form h.b.r
  obtain ⟨om, cm, hfm⟩ := own_form h.m.r
  obtain ⟨on, cn, hfn⟩ := own_form h.n.r
  subst hfb hfm hfn
  have H := Lib.hid h
  have ZB := Lib.hid zb
  have ZM := Lib.hid zm
  have ZN := Lib.hid zn
  clear h zb zm zn
  have HB := Lib.hid H.out.b
  have HM := Lib.hid H.out.m
  have HN := Lib.hid H.out.n
  have HA := Lib.hid H.out.at_
  have hsz := hb0
  go_enter Tryz.func16, Tryz.ntmps16
  go_wp2_with fail
  refine (apartBytes_call hsz lb ZB.out HB.out).mono ?_; rintro e w1 ⟨rfl, hk, hb⟩
  have HA1 := Lib.hid (HA.out.kept hk fun s => HB.out.not_gb _ s rfl)
  replace HM := Lib.hid (HM.out.kept hk fun k s _ => ⟨(H.out.bm' k s).1, (H.out.bm' k s).2, H.out.b.not_gb k s⟩)
  replace HN := Lib.hid (HN.out.kept hk fun k s _ => ⟨(H.out.bn' k s).1, (H.out.bn' k s).2, H.out.b.not_gb k s⟩)
  replace HB := Lib.hid hb
  have HK1 : Hid (Kept w w1 (fun k => Blk vb k ∨ Blk vm k ∨ Blk vn k)) := hk.mono fun _ _ s => .inl s
  replace hsz := Nat.le_trans hsz hk.size
  clear hk hb
  go_wp2_with fail
  refine (apartInts_none (w := w1) (gb := gb) (HA1.out.cell 1)).mono ?_; rintro e w9 ⟨rfl, rfl⟩
  go_wp2_with fail
  refine (apartBools_none (w := w1) (gb := gb) (HA1.out.cell 2)).mono ?_; rintro e w9 ⟨rfl, rfl⟩
  go_wp2_with fail
  refine (apartTexts_none (w := w1) (gb := gb) (HA1.out.cell 3)).mono ?_; rintro e w9 ⟨rfl, rfl⟩
  go_wp2_with fail
  refine (apartMarks_call hsz lm ZM.out HM.out).mono ?_; rintro e w2 ⟨rfl, hk, hb⟩
  have HA2 := Lib.hid (HA1.out.kept hk fun s => HM.out.not_gb _ s rfl)
  replace HB := Lib.hid (HB.out.kept hk fun k s _ => ⟨(H.out.mb' k s).1, (H.out.mb' k s).2, H.out.m.not_gb k s⟩)
  replace HN := Lib.hid (HN.out.kept hk fun k s _ => ⟨(H.out.mn' k s).1, (H.out.mn' k s).2, H.out.m.not_gb k s⟩)
  replace HM := Lib.hid hb
  have HK2 : Hid (Kept w w2 (fun k => Blk vb k ∨ Blk vm k ∨ Blk vn k)) := HK1.out.trans hk fun _ _ s => .inr (.inl s)
  replace hsz := Nat.le_trans hsz hk.size
  clear hk hb
  go_wp2_with fail
  refine (apartSpans_none (w := w2) (gb := gb) (HA2.out.cell 5)).mono ?_; rintro e w9 ⟨rfl, rfl⟩
  go_wp2_with fail
  refine (apartRuns_none (w := w2) (gb := gb) (HA2.out.cell 6)).mono ?_; rintro e w9 ⟨rfl, rfl⟩
  go_wp2_with fail
  refine (apartClasses_none (w := w2) (gb := gb) (HA2.out.cell 7)).mono ?_; rintro e w9 ⟨rfl, rfl⟩
  go_wp2_with fail
  refine (apartNodes_call hsz ln ZN.out HN.out).mono ?_; rintro e w3 ⟨rfl, hk, hb⟩
  have HA3 := Lib.hid (HA2.out.kept hk fun s => HN.out.not_gb _ s rfl)
  replace HB := Lib.hid (HB.out.kept hk fun k s _ => ⟨(H.out.nb' k s).1, (H.out.nb' k s).2, H.out.n.not_gb k s⟩)
  replace HM := Lib.hid (HM.out.kept hk fun k s _ => ⟨(H.out.nm' k s).1, (H.out.nm' k s).2, H.out.n.not_gb k s⟩)
  replace HN := Lib.hid hb
  have HK3 : Hid (Kept w w3 (fun k => Blk vb k ∨ Blk vm k ∨ Blk vn k)) := HK2.out.trans hk fun _ _ s => .inr (.inr s)
  replace hsz := Nat.le_trans hsz hk.size
  clear hk hb
  go_wp2_with fail
  refine (apartInstrs_none (w := w3) (gb := gb) (HA3.out.cell 9)).mono ?_; rintro e w9 ⟨rfl, rfl⟩
  go_wp2_with fail
  refine (apartFaults_none (w := w3) (gb := gb) (HA3.out.cell 10)).mono ?_; rintro e w9 ⟨rfl, rfl⟩
  go_wp2_with fail
  refine (apartNotes_none (w := w3) (gb := gb) (HA3.out.cell 11)).mono ?_; rintro e w9 ⟨rfl, rfl⟩
  go_wp2_with fail
  refine (apartParts_none (w := w3) (gb := gb) (HA3.out.cell 12)).mono ?_; rintro e w9 ⟨rfl, rfl⟩
  go_wp2_with fail
  refine (apartRows_none (w := w3) (gb := gb) (HA3.out.cell 13)).mono ?_; rintro e w9 ⟨rfl, rfl⟩
  go_wp2_with fail
  refine (apartIntss_none (w := w3) (gb := gb) (HA3.out.cell 14)).mono ?_; rintro e w9 ⟨rfl, rfl⟩
  go_wp2_with fail
  refine (apartSpanss_none (w := w3) (gb := gb) (HA3.out.cell 15)).mono ?_; rintro e w9 ⟨rfl, rfl⟩
  go_wp2_with fail
  refine (apartPieces_none (w := w3) (gb := gb) (HA3.out.cell 16)).mono ?_; rintro e w9 ⟨rfl, rfl⟩
  go_wp2_with fail
  refine (apartFiles_none (w := w3) (gb := gb) (HA3.out.cell 17)).mono ?_; rintro e w9 ⟨rfl, rfl⟩
  go_wp2_with fail
  refine (apartCmds_none (w := w3) (gb := gb) (HA3.out.cell 18)).mono ?_; rintro e w9 ⟨rfl, rfl⟩
  go_wp2_with fail
  go_ret
  exact ⟨rfl, HK3.out, HA3.out, HB.out, HM.out, HN.out, H.out.bm', H.out.bn', H.out.mb', H.out.mn', H.out.nb', H.out.nm'⟩
end
end Go.Proofs.YtbdjcmhfcdamiaaGreatDoor

/- A bag takes a list in. -/
namespace Go.Proofs.YtbdjcmhfcdamiaaGreatDoor
open Go.RowKit
set_option maxRecDepth 100000 in
set_option maxHeartbeats 1600000 in
theorem addNodes_call {w : World} {gb : Nat} {bb bm bn : Value} (h : bagAt w gb bb bm bn) {vs : List Value} (hr : w.ownsRow (gb + 1) 22 1 bn vs.length vs) (hl : vs.length < 400) (o : Option Addr) (n c : Nat) :
    Calls Tryz.prog 15 #[.pointer (some ⟨gb, 0, none⟩), .slice o n c] w fun e w' => e = .returned (.tuple #[]) ∧ ∃ b', bagAt w' gb bb bm b' ∧ w'.ownsRow (gb + 1) 22 1 b' (vs ++ [Value.slice o n c]).length (vs ++ [.slice o n c]) ∧ Kept w w' (fun k => k = gb ∨ bn.ownBlock = some k) ∧ (b'.ownBlock = bn.ownBlock ∨ ∃ k, b'.ownBlock = some k ∧ w.heap.size ≤ k) := by
  have c0 := h.cell 8
  rw [show (bagC bb bm bn)[8]? = some bn from rfl] at c0
  have zf := h.frozen 8
  have gl := h.lt
  obtain ⟨ob, cb, hf⟩ := own_form hr
  subst hf
  have H := Lib.hid h
  have HR := Lib.hid hr
  have hl' : (vs.length : Int) < 400 := by omega
  clear h hr
  go_enter Tryz.func15, Tryz.ntmps15
  go_wp2_with (at_builtin; refine wpList_app2 elSN rfl _ _ rfl (gb + 1) (n := vs.length) (m := 1) (xs := vs) (news := [.slice o n c]) rfl (HR.out.alloc _) rfl rfl (newAt w [.slice o n c] _) rfl (by simp [Value.oneCell']) (by unfold maxLen; omega) (by omega) (by simp; omega) ?_)
  intro v1 w1 hown hgr hbk _
  obtain ⟨o1, c1, rfl⟩ := own_form hown
  have hne : ∀ k, (Value.slice ob vs.length cb).ownBlock = some k → k ≠ gb := fun k hk e => by have := (HR.out.lt k hk).1; omega
  have hk1 : Kept w w1 (fun k => (Value.slice ob vs.length cb).ownBlock = some k) := (Kept.alloc w _ _).trans (Kept.of_grown hgr) fun _ _ e => e.symm
  have h1 := H.out.kept hk1 (fun e => hne _ e rfl)
  have c0 := h1.cell 8
  rw [show (bagC _ _ _)[8]? = some (Value.slice ob vs.length cb) from rfl] at c0
  have zf := h1.frozen 8
  have gl1 := h1.lt
  have H1 := Lib.hid (h1.setN (.slice o1 (vs.length + 1) c1))
  have HK : Hid (Kept w (w1.setCell ⟨gb, 8, none⟩ (.slice o1 (vs.length + 1) c1)) (fun k => k = gb ∨ (Value.slice ob vs.length cb).ownBlock = some k)) := (hk1.mono fun _ _ e => .inr e).trans (Kept.setCell w1 ⟨gb, 8, none⟩ (.slice o1 (vs.length + 1) c1)) fun _ _ e => .inl e
  have HO := Lib.hid ((Kept.setCell w1 ⟨gb, 8, none⟩ (.slice o1 (vs.length + 1) c1)).row hown fun k hk e => by have := (hown.lt k hk).1; have e' : k = gb := e; omega)
  have HBk := Lib.hid hbk
  clear hown hgr hbk hk1 h1
  go_wp2_with fail
  go_end0
  refine ⟨rfl, _, H1.out, by rw [List.length_append]; exact HO.out, HK.out, ?_⟩
  rcases HBk.out with h | h
  · exact .inl h
  · exact .inr ⟨_, h, by simp⟩
end Go.Proofs.YtbdjcmhfcdamiaaGreatDoor
