/- Parts: Gj Gk Gl. -/
import Derived.Test.YtfjbnpdffillbaaGreatDoorQ33
import Derived.Test.YtfjbnpdffillbaaGreatDoorQ28
import Derived.Test.YtfjbnpdffillbaaGreatDoorQ35
import Derived.Test.YtfjbnpdffillbaaGreatDoorQ31
import Derived.Test.YtfjbnpdffillbaaGreatDoorQ39
import Derived.Test.YtfjbnpdffillbaaGreatDoorQ21
import Derived.Test.YtfjbnpdffillbaaGreatDoorQ32
import Derived.Deep.DeepCutAuto
/- Contracts: copies and comparison of addresses; address.Print of every address. Condition: the bytes of a spelling are bytes (a plain law). -/
namespace Go.Proofs.YtfjbnpdffillbaaGreatDoor
open Go.RowKit

theorem tenP_all {c : Nat} (h : c < 256) : TenP c := by
  by_cases hc : c < 128
  · exact tenP_low hc
  · exact tenP_high (by omega) h
section
variable {w : World} {oa : Option Addr} {cap : Nat} {re : List Nd} {T : List Nat}
theorem NdW.src (h : NdW w oa cap re) (hl : re.length ≤ 4294967296) : Src w (.slice oa re.length cap) re.length (ndsC re) := by
  cases oa with
  | none =>
    obtain ⟨rfl, rfl⟩ := h.no rfl
    exact .inl ⟨rfl, rfl, rfl⟩
  | some a => exact NdV.srcAt (h.toV hl)
set_option maxRecDepth 100000 in
set_option maxHeartbeats 1600000 in
theorem copyBytes_call (hs : Src w (.slice oa T.length cap) T.length (u8s T)) (hl : T.length ≤ 4294967296) :
    Calls Tryz.prog 12 #[.slice oa T.length cap] w fun e w' => (∃ v, e = .returned v ∧ w'.ownsRow w.heap.size 5 1 v T.length (u8s T)) ∧ Below w.heap.size w w' := by
  have HS := Lib.hid hs
  clear hs
  go_enter Tryz.func12, Tryz.ntmps12
  go_wp2_with (at_builtin; refine wpList_app elU8 rfl _ _ rfl w.heap.size (n := 0) (m := T.length) (news := u8s T) rfl (World.ownsRow_nil w w.heap.size _ _) rfl HS.out (by simp [u8s]) (u8s_one T) (by unfold maxLen; omega) (by omega) (Nat.le_refl _) ?_)
  intro v1 w1 hown hgr _
  have HO := Lib.hid hown
  have HB := Lib.hid ((Below.refl w.heap.size w).grown hgr (Nat.le_refl _) (fun k hk => by cases hk))
  clear hown hgr
  go_wp2_with fail
  go_ret
  exact ⟨⟨_, rfl, by have h := HO.out; simpa using h⟩, HB.out⟩
/-- An address handed back out of a block. -/
theorem ret_cell3 {fn : Func} {p : Tmp} (hf : fn.results = #[.cell p 54]) {Q : Ending → World → Prop} {a : Act} {w : World} {b : Nat} {len cp : Nat} {kk nn : Int} (hp : a.tmps.getD p undef = .pointer (some ⟨b, 0, none⟩)) (hd : a.defers = [])
    (h : AdB w b (.int .i8 kk) (.int .i64 nn) (.slice oa len cp)) (hQ : Q (.returned (.agg #[.int .i8 kk, .int .i64 nn, .slice oa len cp])) w) : bodyPost Tryz.prog fn Q .ret a w := by
  refine bodyPost_ret (v := .agg #[.int .i8 kk, .int .i64 nn, .slice oa len cp]) ?_ hd hQ
  have c0 := h.c0
  have c1 := h.c1
  have c2 := h.c2
  rw [results_cell1 hf, hp]
  simp [asAddr, go_sem, c0, c1, c2, Result.andThen]
set_option maxRecDepth 100000 in
set_option maxHeartbeats 1600000 in
theorem copyAddr_call (k n : Int) (hs : Src w (.slice oa re.length cap) re.length (ndsC re)) (hl : re.length ≤ 2147483647) :
    Calls Tryz.prog 31 #[.agg #[.int .i8 k, .int .i64 n, .slice oa re.length cap]] w fun e w' =>
      (∃ o c, e = .returned (.agg #[.int .i8 k, .int .i64 n, .slice o re.length c]) ∧ Nds w' w.heap.size (.slice o re.length c) re) ∧ Below w.heap.size w w' := by
  have HC := Lib.hid (fun W (h : Src W (.slice oa re.length cap) re.length (ndsC re)) => copyNodesS_call (w := W) h hl)
  have HS := Lib.hid hs
  have HA := Lib.hid (AdB.new w (.int .i8 k) (.int .i64 n) (.slice oa re.length cap))
  have hb1 := (Below.refl w.heap.size w).alloc (Nat.le_refl _) (.cells #[.int .i8 k, .int .i64 n, .slice oa re.length cap] 54)
  have HB1 := Lib.hid hb1
  have hsz : (w.alloc (.cells #[.int .i8 k, .int .i64 n, .slice oa re.length cap] 54)).heap.size = w.heap.size + 1 := by simp
  have hsrc1 : Src (w.alloc (.cells #[.int .i8 k, .int .i64 n, .slice oa re.length cap] 54)) (.slice oa re.length cap) re.length (ndsC re) := by
    rcases hs with h | ⟨a, c, h, hj⟩
    · exact .inl h
    · exact .inr ⟨a, c, h, fun j u hu => lt_cell (hj j u hu) _⟩
  clear hs hb1
  go_enter Tryz.func31, Tryz.ntmps31
  go_upto_region 1 with fail
  obtain ⟨W1, hW1⟩ : ∃ W, w.alloc (.cells #[.int .i8 k, .int .i64 n, .slice oa re.length cap] 54) = W := ⟨_, rfl⟩
  rw [hW1] at HA HB1 hsz hsrc1 ⊢
  have HA2 := Lib.hid (HA.out.below ((Below.refl _ _).alloc (Nat.le_refl _) (.cells #[.int .i8 0, .int .i64 0, .slice none 0 0] 54)))
  have HZ := Lib.hid (AdB.new W1 (.int .i8 0) (.int .i64 0) (.slice none 0 0))
  have HB2 := Lib.hid (HB1.out.alloc HB1.out.size (.cells #[.int .i8 0, .int .i64 0, .slice none 0 0] 54))
  have hsrc2 : Src (W1.alloc (.cells #[.int .i8 0, .int .i64 0, .slice none 0 0] 54)) (.slice oa re.length cap) re.length (ndsC re) := by
    rcases hsrc1 with h | ⟨a, c, h, hj⟩
    · exact .inl h
    · exact .inr ⟨a, c, h, fun j u hu => lt_cell (hj j u hu) _⟩
  have hsz2 : (W1.alloc (.cells #[.int .i8 0, .int .i64 0, .slice none 0 0] 54)).heap.size = w.heap.size + 1 + 1 := by simp [hsz]
  obtain ⟨W2, hW2⟩ : ∃ W, W1.alloc (.cells #[.int .i8 0, .int .i64 0, .slice none 0 0] 54) = W := ⟨_, rfl⟩
  rw [hW2] at HA2 HZ HB2 hsrc2 hsz2 ⊢
  rw [hsz] at HZ
  clear hW1 hW2 HA HB1 hsrc1
  have k0 := HA2.out.c0
  have k1 := HA2.out.c1
  have k2 := HA2.out.c2
  have HX := Lib.hid (HC.out W2 hsrc2)
  clear hsrc2
  go_wp2_with fail
  refine HX.out.mono ?_; rintro e w3 ⟨⟨v3, rfl, hn3⟩, hb3⟩
  obtain ⟨o3, c3, rfl⟩ := hn3.form
  have HA3 := Lib.hid (HA2.out.below hb3)
  have HZ3 := Lib.hid (HZ.out.below hb3)
  have HB3 := Lib.hid (HB2.out.trans (hb3.mono HB2.out.size))
  have hblk := hn3.lt
  have HN3 := Lib.hid hn3
  have HBK := Lib.hid hblk
  clear hb3 hn3 hblk k0 k1 k2 HX HC HA2 HZ HB2
  have k0 := HA3.out.c0
  have k1 := HA3.out.c1
  have k2 := HA3.out.c2
  have f0 := HA3.out.fz
  have z0 := HZ3.out.c0
  have z1 := HZ3.out.c1
  have z2 := HZ3.out.c2
  have g0 := HZ3.out.fz
  have hne : ¬ w.heap.size + 1 = w.heap.size := by omega
  go_wp2_with fail
  refine ret_cell3 (p := 2) (b := w.heap.size + 1) rfl rfl rfl ((HZ3.out.other (by omega) _ _).set (.int .i8 k) (.int .i64 n) (.slice o3 re.length c3)) ⟨⟨o3, c3, rfl, ?_⟩, ?_⟩
  · refine ownsRow_mono (ownsRow_of_block HN3.out fun g hg => ?_) (by omega)
    have := (HBK.out g hg).1
    exact ((Below.heap_setCell _ _ _ _ (by show g ≠ w.heap.size + 1; omega)).trans ((Below.heap_setCell _ _ _ _ (by show g ≠ w.heap.size + 1; omega)).trans ((Below.heap_setCell _ _ _ _ (by show g ≠ w.heap.size + 1; omega)).trans (Below.heap_setCell _ _ _ _ (by show g ≠ w.heap.size; omega)))))
  · exact (((HB3.out.setCell (Nat.le_refl _) _).setCell (by show w.heap.size ≤ w.heap.size + 1; omega) _).setCell (by show w.heap.size ≤ w.heap.size + 1; omega) _).setCell (by show w.heap.size ≤ w.heap.size + 1; omega) _
set_option maxRecDepth 100000 in
set_option maxHeartbeats 1600000 in
theorem eqAddr_same (k n : Int) {ob : Option Addr} {cb : Nat} (ha : NdV w oa re) (hb : NdV w ob re) :
    Calls Tryz.prog 16 #[.agg #[.int .i8 k, .int .i64 n, .slice oa re.length cap], .agg #[.int .i8 k, .int .i64 n, .slice ob re.length cb]] w fun e w' => e = .returned (.bool true) ∧ Below w.heap.size w w' := by
  have hb1 := ((Below.refl w.heap.size w).alloc (Nat.le_refl _) (.cells #[.int .i8 k, .int .i64 n, .slice oa re.length cap] 54)).alloc (by simp) (.cells #[.int .i8 k, .int .i64 n, .slice ob re.length cb] 54)
  have HE := Lib.hid (eqNodes_call (ca := cap) (cb := cb) (ha.below hb1) (hb.below hb1))
  have HB := Lib.hid hb1
  rw [show decide (re = re) = true from decide_eq_true rfl] at HE
  clear ha hb hb1
  go_enter Tryz.func16, Tryz.ntmps16
  go_wp2_with fail
  refine HE.out.mono ?_; rintro e w1 ⟨rfl, hb1⟩
  have HB1 := Lib.hid (HB.out.trans (hb1.mono HB.out.size))
  clear hb1
  go_wp2_with fail
  go_ret
  exact ⟨rfl, HB1.out⟩
end
end Go.Proofs.YtfjbnpdffillbaaGreatDoor

/- Contract of package address: Print of every address. Condition: the bytes of a spelling are bytes (a plain law). -/
namespace Go.Proofs.YtfjbnpdffillbaaGreatDoor
open Go.RowKit

section
variable {w : World} {oa : Option Addr} {cap : Nat} {re : List Nd}
theorem printA_right {ere : Bool} {a : Ad} (h : rightA a = true) : printA ere a = if a.kind = 0 then .ok [] else if a.kind = 1 then .ok (itoB a.n) else if a.kind = 2 then .ok [36] else betweenA ere a.re := by
  unfold printA
  rw [if_neg (by rw [h]; decide)]
/-- What Print hands back, as bytes that can be read. -/
def AprS (r : Except Nat (List Nat)) (e : Ending) (w' : World) : Prop :=
  match r with
  | .error er => e = .returned (.tuple #[.slice none 0 0, .int .i64 (er : Nat)])
  | .ok s => ∃ o c, e = .returned (.tuple #[.slice o s.length c, .int .i64 0]) ∧ Src w' (.slice o s.length c) s.length (u8s s)
theorem Src.below {w w' : World} {v : Value} {m : Nat} {xs : List Value} (h : Src w v m xs) (hb : Below w.heap.size w w') : Src w' v m xs := by
  rcases h with h | ⟨a, c, h, hj⟩
  · exact .inl h
  · exact .inr ⟨a, c, h, fun j u hu => (hb.cell (World.block_lt_of_cell? w _ (hj j u hu))).trans (hj j u hu)⟩
theorem src_lit (w : World) (l : List Nat) (c : Nat) (fz : Nat × Nat) : Src (w.alloc (.cells (u8s l).toArray 5 fz)) (.slice (some ⟨w.heap.size, 0, none⟩) l.length c) l.length (u8s l) :=
  .inr ⟨_, _, rfl, fun j u hu => by
    rw [add_none, Nat.zero_add, cell_of_row _ _ j _ _ fz (heap_alloc_new w _)]
    simpa using hu⟩
theorem AprR.weak {base : Nat} {r : Except Nat (List Nat)} {e : Ending} {w' : World} (h : AprR base r e w') : AprS r e w' := by
  cases r with
  | error er => exact h
  | ok s =>
    obtain ⟨v, rfl, ho⟩ := h
    have hs := Src.own ho
    rcases ho.2 with ⟨h1, h2⟩ | ⟨g, cp, _, h1, _⟩
    · exact ⟨none, 0, by rw [h1, h2], by rw [h1] at hs; rw [h2] at hs ⊢; exact hs⟩
    · exact ⟨_, _, by rw [h1], by rw [h1] at hs; exact hs⟩
set_option maxRecDepth 100000 in
set_option maxHeartbeats 1600000 in
theorem aprint_zero (h : NdV w oa []) (ere : Bool) :
    Calls Tryz.prog 26 #[.agg #[.int .i8 0, .int .i64 0, .slice oa 0 cap], .bool ere] w fun e w' => AprS (.ok []) e w' ∧ Below w.heap.size w w' := by
  have hb0 := (Below.refl w.heap.size w).alloc (Nat.le_refl _) (.cells #[.int .i8 0, .int .i64 0, .slice oa 0 cap] 54)
  have HS := Lib.hid (right_call (cap := cap) 0 0 (h.below hb0))
  rw [show rightA ⟨0, 0, []⟩ = true from rfl] at HS
  have HA := Lib.hid (AdB.new w (.int .i8 0) (.int .i64 0) (.slice oa 0 cap))
  have HB := Lib.hid hb0
  clear h hb0
  go_enter Tryz.func26, Tryz.ntmps26
  go_wp2_with fail
  refine HS.out.mono ?_; rintro e w1 ⟨rfl, hb1⟩
  have HB1 := Lib.hid (HB.out.trans (hb1.mono (by simp)))
  have k0 := (HA.out.below hb1).c0
  clear hb1
  go_wp2_with fail
  go_ret2
  exact ⟨⟨_, _, rfl, Src.nil _⟩, HB1.out⟩
set_option maxRecDepth 100000 in
set_option maxHeartbeats 1600000 in
theorem aprint_two (h : NdV w oa []) (ere : Bool) :
    Calls Tryz.prog 26 #[.agg #[.int .i8 2, .int .i64 0, .slice oa 0 cap], .bool ere] w fun e w' => AprS (.ok [36]) e w' ∧ Below w.heap.size w w' := by
  have hb0 := (Below.refl w.heap.size w).alloc (Nat.le_refl _) (.cells #[.int .i8 2, .int .i64 0, .slice oa 0 cap] 54)
  have HS := Lib.hid (right_call (cap := cap) 2 0 (h.below hb0))
  rw [show rightA ⟨2, 0, []⟩ = true from rfl] at HS
  have HA := Lib.hid (AdB.new w (.int .i8 2) (.int .i64 0) (.slice oa 0 cap))
  have HB := Lib.hid hb0
  clear h hb0
  go_enter Tryz.func26, Tryz.ntmps26
  go_wp2_with fail
  refine HS.out.mono ?_; rintro e w1 ⟨rfl, hb1⟩
  have HB1 := Lib.hid (HB.out.trans (hb1.mono (by simp)))
  have k0 := (HA.out.below hb1).c0
  have k2 := (HA.out.below hb1).c2
  have hs1 := HB1.out.size
  have hcv := Lib.run_convert_bytes_const (P := Tryz.prog) w1 22 5 #[.int .u8 36] 1 1 Tryz.underlying22 Tryz.underlying5
  rw [show (#[Value.int .u8 36] : Array Value).size = 1 from rfl] at hcv
  clear hb1
  go_wp2_with fail
  go_ret2
  exact ⟨⟨_, _, rfl, src_lit w1 [36] 1 (1, 2)⟩, HB1.out.alloc hs1 _⟩
set_option maxRecDepth 100000 in
set_option maxHeartbeats 1600000 in
theorem aprint_nil (h : NdV w oa []) (ere : Bool) :
    Calls Tryz.prog 26 #[.agg #[.int .i8 3, .int .i64 0, .slice oa 0 cap], .bool ere] w fun e w' => AprS (.ok [47, 47]) e w' ∧ Below w.heap.size w w' := by
  have hb0 := (Below.refl w.heap.size w).alloc (Nat.le_refl _) (.cells #[.int .i8 3, .int .i64 0, .slice oa 0 cap] 54)
  have HS := Lib.hid (right_call (cap := cap) 3 0 (h.below hb0))
  rw [show rightA ⟨3, 0, []⟩ = true from rfl] at HS
  have HA := Lib.hid (AdB.new w (.int .i8 3) (.int .i64 0) (.slice oa 0 cap))
  have HB := Lib.hid hb0
  clear h hb0
  go_enter Tryz.func26, Tryz.ntmps26
  go_wp2_with fail
  refine HS.out.mono ?_; rintro e w1 ⟨rfl, hb1⟩
  have HB1 := Lib.hid (HB.out.trans (hb1.mono (by simp)))
  have k0 := (HA.out.below hb1).c0
  have k2 := (HA.out.below hb1).c2
  have hs1 := HB1.out.size
  have hcv := Lib.run_convert_bytes_const (P := Tryz.prog) w1 22 5 #[.int .u8 47, .int .u8 47] 2 2 Tryz.underlying22 Tryz.underlying5
  rw [show (#[Value.int .u8 47, .int .u8 47] : Array Value).size = 2 from rfl] at hcv
  clear hb1
  go_wp2_with fail
  go_ret2
  exact ⟨⟨_, _, rfl, src_lit w1 [47, 47] 2 (2, 3)⟩, HB1.out.alloc hs1 _⟩
set_option maxRecDepth 100000 in
set_option maxHeartbeats 1600000 in
theorem aprint_one {n : Int} (h1 : 1 ≤ n) (h2 : n ≤ 2147483647) (h : NdV w oa []) (ht : Tabs w) (ere : Bool) :
    Calls Tryz.prog 26 #[.agg #[.int .i8 1, .int .i64 n, .slice oa 0 cap], .bool ere] w fun e w' => AprS (.ok (itoB n)) e w' ∧ Below w.heap.size w w' := by
  have hb0 := (Below.refl w.heap.size w).alloc (Nat.le_refl _) (.cells #[.int .i8 1, .int .i64 n, .slice oa 0 cap] 54)
  have HS := Lib.hid (right_call (cap := cap) 1 n (h.below hb0))
  rw [show rightA ⟨1, n, []⟩ = true by simp [rightA, h1, h2]] at HS
  have HA := Lib.hid (AdB.new w (.int .i8 1) (.int .i64 n) (.slice oa 0 cap))
  have HT := Lib.hid (ht.below hb0)
  have HB := Lib.hid hb0
  clear h hb0 ht
  go_enter Tryz.func26, Tryz.ntmps26
  go_wp2_with fail
  refine HS.out.mono ?_; rintro e w1 ⟨rfl, hb1⟩
  have HB1 := Lib.hid (HB.out.trans (hb1.mono (by simp)))
  have k0 := (HA.out.below hb1).c0
  have k1 := (HA.out.below hb1).c1
  have HT1 := Lib.hid (HT.out.below hb1)
  have hs1 := HB1.out.size
  clear hb1 HT
  go_wp2_with fail
  refine (shl.strconv_AppendInt_10 w1.heap.size 0 n (by omega) (by omega) (.slice none 0 0) [] w1 (World.ownsRow_nil _ _ _ _) (Nat.le_refl _) (by omega) (fun w' hb => HT1.out.pw.below hb)).mono ?_
  rintro e w2 ⟨v, rfl, hv, hb2, _⟩
  have hv' : w2.ownsRow w.heap.size 5 1 v (itoB n).length (u8s (itoB n)) := by
    have e : u8s (itoB n) = Lib.byteCells (Lib.itoa n) := by
      rw [← itoa_bytes n]
      simp [u8s, bytesOf, Lib.byteCells]
    have el : (itoB n).length = (Lib.itoa n).length := by
      rw [← itoa_bytes n]
      simp [bytesOf]
    rw [e, el]
    have h := ownsRow_mono hv hs1
    simpa using h
  have HV := Lib.hid hv'
  have HB2 := Lib.hid (HB1.out.trans (hb2.mono hs1))
  clear hv hv' hb2
  go_wp2_with fail
  go_ret2
  exact ⟨AprR.weak (base := w.heap.size) ⟨v, rfl, HV.out⟩, HB2.out⟩
theorem aprint_call (k n : Int) (h : NdV w oa re) (ht : Tabs w) (ere : Bool) (hok : ∀ s, spellN ere re = some s → ∀ b ∈ s, b < 256) :
    Calls Tryz.prog 26 #[.agg #[.int .i8 k, .int .i64 n, .slice oa re.length cap], .bool ere] w fun e w' => AprS (printA ere ⟨k, n, re⟩) e w' ∧ Below w.heap.size w w' := by
  cases hr : rightA ⟨k, n, re⟩ with
  | false =>
    rw [printA_wrong hr]
    exact aprint_wrong h hr ere
  | true =>
    rw [printA_right hr]
    simp only
    by_cases h1 : k = 1
    · subst h1
      simp only [rightA, show ¬ ((1 : Int) = 0 ∨ (1 : Int) = 2) by decide, if_false, if_true, Bool.and_eq_true, decide_eq_true_eq, List.isEmpty_iff] at hr
      obtain ⟨⟨a, b⟩, rfl⟩ := hr
      rw [if_neg (by decide), if_pos rfl]
      exact aprint_one a b h ht ere
    by_cases h0 : k = 0
    · subst h0
      simp only [rightA, true_or, if_true, Bool.and_eq_true, beq_iff_eq, List.isEmpty_iff] at hr
      obtain ⟨rfl, rfl⟩ := hr
      rw [if_pos rfl]
      exact aprint_zero h ere
    by_cases h2 : k = 2
    · subst h2
      simp only [rightA, or_true, if_true, Bool.and_eq_true, beq_iff_eq, List.isEmpty_iff] at hr
      obtain ⟨rfl, rfl⟩ := hr
      rw [if_neg (by decide), if_neg (by decide), if_pos rfl]
      exact aprint_two h ere
    have h3 : k = 3 := by
      by_cases h3 : k = 3
      · exact h3
      · simp only [rightA, show ¬ (k = 0 ∨ k = 2) by omega, if_false, h1, h3] at hr
        cases hr
    subst h3
    simp only [rightA, show ¬ ((3 : Int) = 0 ∨ (3 : Int) = 2) by decide, if_false, show ¬ (3 : Int) = 1 by decide, if_true, Bool.and_eq_true, beq_iff_eq, Bool.or_eq_true, List.isEmpty_iff] at hr
    obtain ⟨rfl, hs⟩ := hr
    rw [if_neg (by decide), if_neg (by decide), if_neg (by decide)]
    by_cases he : re = []
    · subst he
      exact aprint_nil h ere
    · refine (aprint_three h (fun e => he (List.eq_nil_of_length_eq_zero e)) (hs.resolve_left he) ht ere hok).mono ?_
      rintro e w' ⟨h1, h2⟩
      exact ⟨h1.weak, h2⟩
end
end Go.Proofs.YtfjbnpdffillbaaGreatDoor

/- The walk of AddressBack. No condition but the tables of Go's library. -/
namespace Go.Proofs.YtfjbnpdffillbaaGreatDoor
open Go.RowKit

/-- Bytes that came in. -/
structure BtA (w : World) (ob : Option Addr) (cb : Nat) (T : List Nat) : Prop where
  no : ob = none → T = [] ∧ cb = 0
  at_ : 0 < T.length → ∃ g o, ob = some ⟨g, o, none⟩ ∧ g < w.heap.size ∧ ∀ j, j < T.length → w.cell? ⟨g, o + j, none⟩ = some (.int .u8 (T.getD j 0 : Nat))
  u : ∀ j, T.getD j 0 < 256
theorem BtA.below {w w' : World} {ob : Option Addr} {cb : Nat} {T : List Nat} (h : BtA w ob cb T) (hb : Below w.heap.size w w') : BtA w' ob cb T :=
  ⟨h.no, fun hp => by
    obtain ⟨g, o, h1, h2, h3⟩ := h.at_ hp
    exact ⟨g, o, h1, Nat.lt_of_lt_of_le h2 hb.size, fun j hj => (hb.cell (p := ⟨g, o + j, none⟩) h2).trans (h3 j hj)⟩, h.u⟩
theorem BtA.src {w : World} {ob : Option Addr} {cb : Nat} {T : List Nat} (h : BtA w ob cb T) : Src w (.slice ob T.length cb) T.length (u8s T) := by
  cases ob with
  | none =>
    obtain ⟨rfl, rfl⟩ := h.no rfl
    exact .inl ⟨rfl, rfl, rfl⟩
  | some a =>
    refine .inr ⟨a, cb, rfl, fun j u hu => ?_⟩
    have hj : j < T.length := by simpa [u8s] using (List.getElem?_eq_some_iff.1 hu).1
    obtain ⟨g, o, h1, _, h3⟩ := h.at_ (by omega)
    injection h1 with h1
    subst h1
    rw [add_none, h3 j hj]
    simpa [u8s, hj, List.getD_eq_getElem?_getD] using hu
theorem own_tx {w : World} {base : Nat} {v : Value} {T : List Nat} (h : w.ownsRow base 5 1 v T.length (u8s T)) : ∃ o c, v = .slice o T.length c ∧ TxIn w o T ∧ ∀ g x s, o ≠ some ⟨g, x, some s⟩ := by
  have h0 := h
  rcases h.2 with ⟨rfl, hn⟩ | ⟨g, cap, cur, rfl, hb, hg, _⟩
  · exact ⟨none, 0, by rw [hn], fun hp => by omega, fun g x s e => by cases e⟩
  · refine ⟨_, cap, rfl, fun _ => ⟨g, 0, rfl, fun j hj => ?_⟩, fun g x s e => by injection e with e; injection e with _ _ e; cases e⟩
    rw [← add_none]
    refine h0.cells (g := g) rfl j _ ?_
    simp [u8s, hj, List.getD_eq_getElem?_getD]
theorem getD_lt {s : List Nat} (h : ∀ x ∈ s, x < 256) (j : Nat) : s.getD j 0 < 256 := by
  rw [List.getD_eq_getElem?_getD]
  cases hj : s[j]? with
  | none => decide
  | some x => exact h x (List.mem_of_getElem? hj)
theorem printA_err {ere : Bool} {a : Ad} {er : Nat} (h : printA ere a = .error er) : er = 71 ∨ er = 50 := by
  unfold printA at h
  split at h
  · cases h; exact .inl rfl
  · split at h
    · cases h
    · split at h
      · cases h
      · split at h
        · cases h
        · unfold betweenA at h
          split at h
          · cases h
          · split at h
            · cases h; exact .inr rfl
            · split at h
              · cases h; exact .inr rfl
              · cases h
theorem right_kind {a : Ad} (h : rightA a = true) : 0 ≤ a.kind ∧ a.kind ≤ 3 := by
  by_cases h1 : a.kind = 0 ∨ a.kind = 2
  · omega
  · by_cases h2 : a.kind = 1
    · omega
    · by_cases h3 : a.kind = 3
      · omega
      · simp only [rightA, if_neg h1, if_neg h2, if_neg h3] at h
        cases h
/-- What was written is read as it, with nothing behind. -/
theorem back_any {ere : Bool} {b : Ad} {t : List Nat} (hr : rightA b = true) (h : printA ere b = .ok t) : addrL ere t 0 = (b, 0, t.length) := by
  by_cases hk : b.kind = 0
  · obtain ⟨k, n, re⟩ := b
    simp only at hk
    subst hk
    simp only [rightA, true_or, if_true, Bool.and_eq_true, beq_iff_eq, List.isEmpty_iff] at hr
    obtain ⟨rfl, rfl⟩ := hr
    cases h
    rfl
  · have := print_back (x := []) h hk (fun b l e => by cases e)
    rwa [List.append_nil] at this
theorem spell_u8 {ere : Bool} {re : List Nd} : ∀ s, spellN ere re = some s → ∀ b ∈ s, b < 256 := fun _ hs b hb => ((spellN_okb hs).1 b hb).2
/-- The kids of what is right and what was read. -/
theorem read_kids {ere : Bool} {T : List Nat} {b : Ad} {e at_ : Nat} (hT : ∀ j, T.getD j 0 < 256) (h : addrL ere T 0 = (b, e, at_)) : b.re.length ≤ 2147483647 ∧ ∀ x ∈ b.re, x.kids ≤ 9223372036854775807 := by
  have hz : Ad.zero.re.length ≤ 2147483647 ∧ ∀ x ∈ Ad.zero.re, x.kids ≤ 9223372036854775807 := ⟨by decide, fun x hx => by cases hx⟩
  have tl : ∀ k, tailA ere T k = (b, e, at_) → b.re.length ≤ 2147483647 ∧ ∀ x ∈ b.re, x.kids ≤ 9223372036854775807 := by
    intro k h
    rw [tailA_of rfl] at h
    cases hq : partS T (T.getD k 0) false (k + 1) with
    | none => rw [hq] at h; simp only [tailB, Prod.mk.injEq] at h; rw [← h.1]; exact hz
    | some p =>
      obtain ⟨l, j⟩ := p
      have hu := partS_u (hT k) hT hq
      rw [hq] at h
      by_cases hl : l = []
      · subst hl
        rw [tailB_nil] at h
        simp only [Prod.mk.injEq] at h
        rw [← h.1]; exact ⟨by decide, fun x hx => by cases hx⟩
      · rw [tailB_some hl] at h
        cases hp : parseL ere l with
        | error q => rw [hp] at h; simp only [parA, Prod.mk.injEq] at h; rw [← h.1]; exact hz
        | ok re =>
          rw [hp] at h
          simp only [parA, Prod.mk.injEq] at h
          obtain ⟨hfl, hfk, _⟩ := parseL_fit (fun i hi => hu _ (markAt_mem hi)) hp
          rw [← h.1]
          exact ⟨by show re.length ≤ _; omega, fun x hx => by have := hfk x hx; omega⟩
  by_cases hl : T.length ≤ 0
  · rw [addrL_end ere hl] at h; simp only [Prod.mk.injEq] at h; rw [← h.1]; exact hz
  have hl : 0 < T.length := by omega
  by_cases hd : 48 ≤ T.getD 0 0 ∧ T.getD 0 0 ≤ 57
  · rw [addrL_num ere hl hd] at h
    cases hq : numS T 2147483647 0 with
    | none => rw [hq] at h; simp only [numA, Prod.mk.injEq] at h; rw [← h.1]; exact hz
    | some p =>
      obtain ⟨v, j⟩ := p
      rw [hq, numA] at h
      split at h <;> simp only [Prod.mk.injEq] at h <;> rw [← h.1]
      · exact hz
      · exact ⟨by simp, fun x hx => by cases hx⟩
  by_cases h36 : T.getD 0 0 = 36
  · rw [addrL_last ere hl h36] at h; simp only [Prod.mk.injEq] at h; rw [← h.1]; exact ⟨by decide, fun x hx => by cases hx⟩
  by_cases h92 : T.getD 0 0 = 92
  · by_cases h1 : T.length ≤ 0 + 1
    · rw [addrL_cut ere hl h92 h1] at h; simp only [Prod.mk.injEq] at h; rw [← h.1]; exact hz
    · rw [addrL_own ere hl h92 (by omega)] at h
      exact tl _ h
  by_cases h47 : T.getD 0 0 = 47
  · rw [addrL_slash ere hl h47] at h
    exact tl _ h
  rw [addrL_other ere hl hd h36 h92 h47] at h; simp only [Prod.mk.injEq] at h; rw [← h.1]; exact hz

/-- What was written is asked for. -/
def BackC (w3 : World) (ere : Bool) (k n : Int) (re : List Nd) (bh : List Nat) (o3 : Option Addr) (m3 c3 er : Nat) : Prop :=
  er = 0 ∧ ∃ s, printA ere ⟨k, n, re⟩ = .ok s ∧ m3 = s.length ∧ Src w3 (.slice o3 s.length c3) s.length (u8s s) ∧ k ≠ 0 ∧ ∀ b l, bh = b :: l → b < 48 ∨ 57 < b
theorem AprS.form {r : Except Nat (List Nat)} {e : Ending} {w' : World} (h : AprS r e w') : ∃ (o : Option Addr) (m c er : Nat), e = .returned (.tuple #[.slice o m c, .int .i64 (er : Nat)]) ∧ ((er ≠ 0 ∧ ∃ x, r = .error x) ∨ (er = 0 ∧ ∃ s, r = .ok s ∧ m = s.length ∧ Src w' (.slice o s.length c) s.length (u8s s)) ∨ ∃ x, r = .error x ∧ x = 0) := by
  cases r with
  | error x =>
    by_cases hx : x = 0
    · exact ⟨none, 0, 0, x, h, .inr (.inr ⟨x, rfl, hx⟩)⟩
    · exact ⟨none, 0, 0, x, h, .inl ⟨hx, x, rfl⟩⟩
  | ok s =>
    obtain ⟨o, c, h1, h2⟩ := h
    exact ⟨o, s.length, c, 0, h1, .inr (.inl ⟨rfl, s, rfl, rfl, h2⟩)⟩
section
variable {w : World} {k n : Int} {oa ob : Option Addr} {ca cb : Nat} {re : List Nd} {bh : List Nat}
set_option maxRecDepth 100000 in
set_option maxHeartbeats 12800000 in
theorem back20_all (hv : NdW w oa ca re) (z : re.length * 72 ≤ 140737488351232) (hbh : BtA w ob cb bh) (ht : Tabs w) (hk1 : -128 ≤ k) (hk2 : k ≤ 127) (ere : Bool) :
    Calls Tryz.prog 6 #[.agg #[.int .i8 k, .int .i64 n, .slice oa re.length ca], .bool ere, .slice ob bh.length cb] w fun e w' => e = .returned (.bool true) ∧ Below w.heap.size w w' := by
  have hb0 := (Below.refl w.heap.size w).alloc (Nat.le_refl _) (.cells #[.int .i8 k, .int .i64 n, .slice oa re.length ca] 54)
  have HT := Lib.hid ht
  have HV := Lib.hid hv
  have HBH := Lib.hid hbh
  have HA0 := Lib.hid (AdB.new w (.int .i8 k) (.int .i64 n) (.slice oa re.length ca))
  have HB0 := Lib.hid hb0
  have HV0 := Lib.hid (hv.below hb0)
  have HZ := Lib.hid z
  clear hv hbh ht hb0 z
  go_enter Tryz.func6, Tryz.ntmps6
  go_upto_region 1 with fail
  obtain ⟨W0, hW0⟩ : ∃ W, w.alloc (.cells #[.int .i8 k, .int .i64 n, .slice oa re.length ca] 54) = W := ⟨_, rfl⟩
  rw [hW0] at HA0 HB0 HV0 ⊢
  clear hW0
  have a0 := HA0.out.c0
  have a1 := HA0.out.c1
  have a2 := HA0.out.c2
  go_wp2_with fail
  refine (beyond_call HV0.out HZ.out).mono ?_; rintro e w1 ⟨⟨b, rfl⟩, hb1⟩
  have HB1 := Lib.hid (HB0.out.trans (hb1.mono HB0.out.size))
  have HA1 := Lib.hid (HA0.out.below hb1)
  clear hb1 a0 a1 a2 HA0 HB0 HV0
  have a0 := HA1.out.c0
  have a1 := HA1.out.c1
  have a2 := HA1.out.c2
  cases b with
  | true =>
    go_wp2_with fail
    go_ret
    exact ⟨rfl, HB1.out⟩
  | false =>
  go_wp2_with fail
  refine (long_call _).mono ?_; rintro e wz ⟨rfl, rfl⟩
  by_cases q1 : (2147483647 : Int) < (re.length : Int)
  · rw [decide_eq_true q1]
    clear q1
    go_wp2_with fail
    go_ret
    exact ⟨rfl, HB1.out⟩
  rw [decide_eq_false q1]
  have HL1 : Hid (re.length ≤ 2147483647) := Lib.hid (by omega)
  clear q1
  go_wp2_with fail
  refine (long_call _).mono ?_; rintro e wz ⟨rfl, rfl⟩
  by_cases q2 : (2147483647 : Int) < (bh.length : Int)
  · rw [decide_eq_true q2]
    clear q2
    go_wp2_with fail
    go_ret
    exact ⟨rfl, HB1.out⟩
  rw [decide_eq_false q2]
  have HL2 : Hid (bh.length ≤ 2147483647) := Lib.hid (by omega)
  clear q2
  have HVA := Lib.hid (HV.out.below HB1.out)
  go_wp2_with fail
  refine (copyAddr_call (cap := ca) k n (HVA.out.src (by have := HL1.out; omega)) HL1.out).mono ?_
  rintro e w2 ⟨⟨o2, c2, rfl, hn2⟩, hb2⟩
  have HB2 := Lib.hid (HB1.out.trans (hb2.mono HB1.out.size))
  have HA2 := Lib.hid (HA1.out.below hb2)
  have HKD : Hid (∀ x ∈ re, x.kids ≤ 9223372036854775807) := Lib.hid fun x hx => (HV.out.wf x hx).2.2.2.2.2
  obtain ⟨o2', c2', hv2, _, hnv2⟩ := hn2.toV2 (by have := HL1.out; omega) HKD.out
  injection hv2 with e1 _ e3
  subst e1
  subst e3
  have HN2 := Lib.hid hnv2
  clear hn2 hb2 hnv2 a0 a1 a2 HA1 HB1
  go_wp2_with fail
  refine (aprint_call (cap := c2) k n HN2.out (HT.out.below HB2.out) ere spell_u8).mono ?_
  rintro e w3 ⟨hr3, hb3⟩
  have HB3 := Lib.hid (HB2.out.trans (hb3.mono HB2.out.size))
  have HA3 := Lib.hid (HA2.out.below hb3)
  clear hb3 HN2 HA2 HB2
  have a0 := HA3.out.c0
  have a1 := HA3.out.c1
  have a2 := HA3.out.c2
  obtain ⟨p, hp⟩ : ∃ p, printA ere ⟨k, n, re⟩ = p := ⟨_, rfl⟩
  rw [hp] at hr3
  have HP := Lib.hid hp
  obtain ⟨o3, m3, c3, er, rfl, hcs⟩ := hr3.form
  have HCS := Lib.hid hcs
  clear hp hr3 hcs
  go_upto_region 4 with fail
  go_cut [67] (fun x wd => ∃ c : Bool, x = .bool c ∧ (c = true → BackC w3 ere k n re bh o3 m3 c3 er) ∧ wd = w3)
  case first =>
    have hcs2 : (er ≠ 0 ∧ ∃ x, p = .error x) ∨ (er = 0 ∧ ∃ s, p = .ok s ∧ m3 = s.length ∧ Src w3 (.slice o3 s.length c3) s.length (u8s s)) := by
      rcases HCS.out with h | h | ⟨x, hpx, hx0⟩
      · exact .inl h
      · exact .inr h
      · have := printA_err (HP.out.trans hpx); omega
    rcases hcs2 with ⟨her, x, hpx⟩ | ⟨rfl, s, hps, rfl, hs3⟩
    · have qer : ((er : Int) == 0) = false := beq_eq_false_iff_ne.2 (by omega)
      clear her
      go_wp2_with fail
      go_meet
      exact ⟨false, rfl, fun h => (by cases h), rfl⟩
    have HP := Lib.hid (HP.out.trans hps)
    have HS3 := Lib.hid hs3
    clear hps hs3
    by_cases hk0 : k = 0
    · subst hk0
      go_wp2_with fail
      go_meet
      exact ⟨false, rfl, fun h => (by cases h), rfl⟩
    have qk : (k != 0) = true := bne_iff_ne.2 hk0
    have HK0 := Lib.hid hk0
    clear hk0
    by_cases hbl : bh.length = 0
    · have hbn : bh = [] := List.eq_nil_of_length_eq_zero hbl
      have HX : Hid (∀ b l, bh = b :: l → b < 48 ∨ 57 < b) := Lib.hid fun b l e => by rw [hbn] at e; cases e
      have qbl : ((bh.length : Int) == 0) = true := by rw [hbl]; rfl
      clear hbn hbl
      go_wp2_with fail
      go_meet
      exact ⟨true, rfl, fun _ => ⟨rfl, s, HP.out, rfl, HS3.out, HK0.out, HX.out⟩, rfl⟩
    have qbl : ((bh.length : Int) == 0) = false := beq_eq_false_iff_ne.2 (by omega)
    obtain ⟨g, o, rfl, hgl, hc⟩ := (HBH.out.below HB3.out).at_ (by omega)
    have hc0 := hc 0 (by omega)
    rw [Nat.add_zero] at hc0
    obtain ⟨x, hx⟩ : ∃ x, bh.getD 0 0 = x := ⟨_, rfl⟩
    rw [hx] at hc0
    have hpos : 0 < bh.length := by omega
    have hposI : (0 : Int) < (bh.length : Int) := by omega
    have HHD : Hid (∀ b l, bh = b :: l → b = x) := Lib.hid fun b l e => by rw [e] at hx; exact hx
    clear hc hbl
    by_cases hlo : x < 48
    · have HX : Hid (∀ b l, bh = b :: l → b < 48 ∨ 57 < b) := Lib.hid fun b l e => .inl (by rw [HHD.out b l e]; exact hlo)
      have qlo : (x : Int) < 48 := by omega
      clear hlo hx
      go_wp2_with fail
      go_meet
      exact ⟨true, rfl, fun _ => ⟨rfl, s, HP.out, rfl, HS3.out, HK0.out, HX.out⟩, rfl⟩
    have qlo : ¬ (x : Int) < 48 := by omega
    by_cases hhi : 57 < x
    · have HX : Hid (∀ b l, bh = b :: l → b < 48 ∨ 57 < b) := Lib.hid fun b l e => .inr (by rw [HHD.out b l e]; exact hhi)
      have qhi : (57 : Int) < (x : Int) := by omega
      clear hhi hx hlo
      go_wp2_with fail
      go_meet
      exact ⟨true, rfl, fun _ => ⟨rfl, s, HP.out, rfl, HS3.out, HK0.out, HX.out⟩, rfl⟩
    have qhi : ¬ (57 : Int) < (x : Int) := by omega
    clear hhi hx hlo
    go_wp2_with fail
    go_meet
    exact ⟨false, rfl, fun h => (by cases h), rfl⟩
  case rest =>
  obtain ⟨cnd, rfl, hcnd, rfl⟩ := hcut
  have HCND := Lib.hid hcnd
  clear hcnd
  go_upto_if 67 with fail
  go_cut [9, 10, 11, 12] (fun _ _ _ _ wd => Below w.heap.size w wd)
  case first =>
    cases cnd with
    | false =>
      go_wp2_with fail
      go_meet
      exact HB3.out
    | true =>
      obtain ⟨rfl, s, hps, rfl, hs3, hk0, hX⟩ := HCND.out rfl
      have HP := Lib.hid hps
      have HS3 := Lib.hid hs3
      have HK0 := Lib.hid hk0
      have HX := Lib.hid hX
      have hsl : s.length ≤ 100000 := (printA_lt HP.out).2
      clear hps hs3 hk0 hX
      go_wp2_with fail
      refine (copyBytes_call HS3.out (by omega)).mono ?_
      rintro e w4 ⟨⟨v4, rfl, hv4⟩, hb4⟩
      have HB4 := Lib.hid (HB3.out.trans (hb4.mono HB3.out.size))
      have HA4 := Lib.hid (HA3.out.below hb4)
      have HV4 := Lib.hid hv4
      have hs34 : wc.heap.size ≤ w4.heap.size := hb4.size
      have hs03 : w.heap.size < wc.heap.size := HA3.out.lt
      have HSB := Lib.hid (HBH.out.below HB4.out).src
      have hlb := HL2.out
      clear hv4 hb4 a0 a1 a2
      go_wp2_with (at_builtin; refine wpList_app elU8 rfl _ _ rfl wc.heap.size (n := s.length) (m := bh.length) (news := u8s bh) rfl HV4.out rfl HSB.out (by simp [u8s]) (u8s_one bh) (by unfold maxLen; omega) (by omega) hs34 ?_)
      intro v5 w5 hown5 hgr5 _
      have hb5 := HB4.out.grown hgr5 HB4.out.size (fun k hk => by have := (HV4.out.lt k hk).1; omega)
      have HB5 := Lib.hid hb5
      have hA5 := HA4.out.block (hgr5.block w.heap.size HA4.out.lt (fun e => by have := (HV4.out.lt _ e.symm).1; omega)) hgr5.size
      have hrow : w5.ownsRow wc.heap.size 5 1 v5 (s ++ bh).length (u8s (s ++ bh)) := by
        rw [List.length_append, show u8s (s ++ bh) = u8s s ++ u8s bh by simp [u8s]]
        exact hown5
      obtain ⟨o5, c5, rfl, htx5, hno5⟩ := own_tx hrow
      have HTX := Lib.hid htx5
      have HNO := Lib.hid hno5
      have HA5 := Lib.hid hA5
      have hlt5 : (s ++ bh).length ≤ 4294967296 := by rw [List.length_append]; omega
      clear hown5 hgr5 hb5 hrow htx5 hno5 hA5 HV4 HSB HA4
      have hu5 : ∀ j, (s ++ bh).getD j 0 < 256 := fun j => by
        rw [List.getD_eq_getElem?_getD, List.getElem?_append]
        split
        · have := getD_lt (printA_lt HP.out).1 j
          rwa [List.getD_eq_getElem?_getD] at this
        · have := HBH.out.u (j - s.length)
          rwa [List.getD_eq_getElem?_getD] at this
      have hnw := wnew_call (w := w5) (cap := c5) HTX.out hlt5 HNO.out hu5
      rw [List.length_append] at hnw
      have HNW := Lib.hid hnw
      clear hnw hu5
      go_wp2_with fail
      refine HNW.out.mono ?_
      rintro e w6 ⟨wb, ow, cw, rfl, hwb, hw6, hb6⟩
      have HB6 := Lib.hid (HB5.out.trans (hb6.mono HB5.out.size))
      have HA6 := Lib.hid (HA5.out.below hb6)
      have hne6 : w.heap.size ≠ wb := by have := HA5.out.lt; omega
      have hwb' : w.heap.size ≤ wb := by have := HB5.out.size; omega
      have HW6 := Lib.hid hw6
      have HU6 := Lib.hid hw6.u
      clear hw6 hb6 HTX HNO HA5 HB5 hwb
      go_wp2_with fail
      refine (aparse_call HW6.out ere (fun j _ => tenP_all (HU6.out j))).mono ?_
      rintro e w7 ⟨⟨v7, he, hn7, hw7⟩, hb7⟩
      rw [print_back HP.out HK0.out HX.out] at he hn7 hw7
      subst he
      obtain ⟨o7, c7, rfl, _, hv7⟩ := hn7.toV2 (by have := HL1.out; show re.length ≤ _; omega) HKD.out
      have HB7 := Lib.hid (HB6.out.trans ((hb7.mono HB6.out.size).to_below hwb'))
      have HA7 := Lib.hid (HA6.out.nbut hb7 HA6.out.lt hne6)
      have HN7 := Lib.hid hv7
      have HW7 := Lib.hid hw7
      clear hn7 hw7 hb7 hv7 HB6 HA6 HW6
      have HC8 := Lib.hid (AdB.new w7 (.int .i8 k) (.int .i64 n) (.slice o7 re.length c7))
      have hb8 := (Below.refl w7.heap.size w7).alloc (Nat.le_refl _) (.cells #[.int .i8 k, .int .i64 n, .slice o7 re.length c7] 54)
      have HA8 := Lib.hid (HA7.out.below hb8)
      have HN8 := Lib.hid (HN7.out.below hb8)
      have HW8 := Lib.hid (HW7.out.below hb8)
      have HB8 := Lib.hid (HB7.out.trans (hb8.mono HB7.out.size))
      go_upto_region 9 with fail
      obtain ⟨a8, ha8⟩ : ∃ a, w7.heap.size = a := ⟨_, rfl⟩
      obtain ⟨W8, hW8⟩ : ∃ W, w7.alloc (.cells #[.int .i8 k, .int .i64 n, .slice o7 re.length c7] 54) = W := ⟨_, rfl⟩
      rw [hW8] at HC8 HA8 HN8 HW8 HB8 ⊢
      rw [ha8] at HC8 ⊢
      clear hW8 ha8 hb8 HA7 HN7 HW7 HB7
      have a0 := HA8.out.c0
      have a1 := HA8.out.c1
      have a2 := HA8.out.c2
      have d0 := HC8.out.c0
      have d1 := HC8.out.c1
      have d2 := HC8.out.c2
      have HVA := Lib.hid ((HV.out.below HB8.out).toV (by have := HL1.out; omega))
      go_wp2_with fail
      refine (eqAddr_same (cap := ca) (cb := c7) k n HVA.out HN8.out).mono ?_
      rintro e w9 ⟨rfl, hb9⟩
      have HB9 := Lib.hid (HB8.out.trans (hb9.mono HB8.out.size))
      have HW9 := Lib.hid (HW8.out.below hb9)
      clear hb9 a0 a1 a2 d0 d1 d2 HC8 HA8 HN8 HW8 HB8 HVA
      go_wp2_with fail
      refine (wat_call HW9.out).mono ?_; rintro e w10 ⟨rfl, rfl⟩
      go_wp2_with fail
      go_meet
      exact HB9.out
  case rest =>
    have HBc := Lib.hid hcut
    clear hcut a0 a1 a2 HA3 HB3 HP HCS HCND
    go_wp2_with fail
    have HSB := Lib.hid (HBH.out.below HBc.out).src
    refine (copyBytes_call HSB.out (by have := HL2.out; omega)).mono ?_
    rintro e x1 ⟨⟨vx1, rfl, hx1⟩, hbx1⟩
    have XB1 := Lib.hid (HBc.out.trans (hbx1.mono HBc.out.size))
    obtain ⟨ox1, cx1, rfl, htx1, hnx1⟩ := own_tx hx1
    have XT := Lib.hid htx1
    have XN := Lib.hid hnx1
    clear hx1 hbx1 htx1 hnx1 HSB
    go_wp2_with fail
    refine (wnew_call (cap := cx1) XT.out (by have := HL2.out; omega) XN.out HBH.out.u).mono ?_
    rintro e x2 ⟨wx, owx, cwx, rfl, hwx, hx2, hbx2⟩
    have XB2 := Lib.hid (XB1.out.trans (hbx2.mono XB1.out.size))
    have hwx' : w.heap.size ≤ wx := by have := XB1.out.size; omega
    have XW2 := Lib.hid hx2
    clear hx2 hbx2 XT XN XB1 hwx
    go_wp2_with fail
    refine (aparse_call XW2.out ere (fun j _ => tenP_all (HBH.out.u j))).mono ?_
    rintro e x3 ⟨⟨vx3, he, hnx3, hwx3⟩, hbx3⟩
    obtain ⟨r3, hr3e⟩ : ∃ r, addrL ere bh 0 = r := ⟨_, rfl⟩
    rw [hr3e] at he hnx3 hwx3
    have HR3 := Lib.hid hr3e
    obtain ⟨⟨bk, bn, br⟩, be, bat⟩ := r3
    simp only at he hnx3 hwx3
    subst he
    have hkd := read_kids HBH.out.u HR3.out
    simp only at hkd
    obtain ⟨ox3, cx3, rfl, _, hvx3⟩ := hnx3.toV2 (by omega) hkd.2
    have XB3 := Lib.hid (XB2.out.trans ((hbx3.mono XB2.out.size).to_below hwx'))
    have XN3 := Lib.hid hvx3
    have XO3 := Lib.hid (Src.own hnx3)
    have XW3 := Lib.hid hwx3
    have XKD := Lib.hid hkd
    clear hnx3 hwx3 hbx3 hvx3 hr3e hkd XB2 XW2
    have XC4 := Lib.hid (AdB.new x3 (.int .i8 bk) (.int .i64 bn) (.slice ox3 br.length cx3))
    have hbx4 := (Below.refl x3.heap.size x3).alloc (Nat.le_refl _) (.cells #[.int .i8 bk, .int .i64 bn, .slice ox3 br.length cx3] 54)
    have XN4 := Lib.hid (XN3.out.below hbx4)
    have XO4 := Lib.hid (Src.below XO3.out hbx4)
    have XW4 := Lib.hid (XW3.out.below hbx4)
    have XB4 := Lib.hid (XB3.out.trans (hbx4.mono XB3.out.size))
    go_upto_region 13 with fail
    obtain ⟨ax, hax⟩ : ∃ a, x3.heap.size = a := ⟨_, rfl⟩
    obtain ⟨X4, hX4⟩ : ∃ W, x3.alloc (.cells #[.int .i8 bk, .int .i64 bn, .slice ox3 br.length cx3] 54) = W := ⟨_, rfl⟩
    rw [hX4] at XC4 XN4 XO4 XW4 XB4 ⊢
    rw [hax] at XC4 ⊢
    clear hX4 hax hbx4 XN3 XO3 XW3 XB3
    go_wp2_with fail
    refine (wat_call XW4.out).mono ?_; rintro e x5 ⟨rfl, rfl⟩
    have d0 := XC4.out.c0
    have d1 := XC4.out.c1
    have d2 := XC4.out.c2
    by_cases hbe : be = 0
    · subst hbe
      have XR := Lib.hid (read_right HBH.out.u HR3.out)
      go_wp2_with fail
      refine (copyAddr_call (cap := cx3) bk bn XO4.out XKD.out.1).mono ?_
      rintro e x6 ⟨⟨o6, c6, rfl, hn6⟩, hbx6⟩
      have XB6 := Lib.hid (XB4.out.trans (hbx6.mono XB4.out.size))
      have XC6 := Lib.hid (XC4.out.below hbx6)
      have XN6 := Lib.hid (XN4.out.below hbx6)
      obtain ⟨o6', c6', hv6, _, hnv6⟩ := hn6.toV2 (by have := XKD.out.1; omega) XKD.out.2
      injection hv6 with e1 _ e3
      subst e1
      subst e3
      have XM6 := Lib.hid hnv6
      clear hn6 hbx6 hnv6 d0 d1 d2 XC4 XN4 XO4 XB4
      go_wp2_with fail
      refine (aprint_call (cap := c6) bk bn XM6.out (HT.out.below XB6.out) ere spell_u8).mono ?_
      rintro e x7 ⟨hr7, hbx7⟩
      have XB7 := Lib.hid (XB6.out.trans (hbx7.mono XB6.out.size))
      have XC7 := Lib.hid (XC6.out.below hbx7)
      have XN7 := Lib.hid (XN6.out.below hbx7)
      clear hbx7 XM6 XC6 XN6 XB6
      have d0 := XC7.out.c0
      have d1 := XC7.out.c1
      have d2 := XC7.out.c2
      obtain ⟨p7, hp7⟩ : ∃ p, printA ere ⟨bk, bn, br⟩ = p := ⟨_, rfl⟩
      rw [hp7] at hr7
      cases p7 with
      | error er =>
        have hlong : er = 50 ∧ 512 < bat := by
          rcases XR.out.2.2 with ⟨t, h⟩ | ⟨h, h2⟩
          · rw [hp7] at h; cases h
          · rw [hp7] at h; cases h; exact ⟨rfl, h2⟩
        obtain ⟨rfl, hlong⟩ := hlong
        have hlongI : (512 : Int) < (bat : Int) := by omega
        have hr7' : e = .returned (.tuple #[.slice none 0 0, .int .i64 (50 : Nat)]) := hr7
        subst hr7'
        clear hp7 hr7
        go_wp2_with fail
        refine (works_call (HT.out.below XB7.out)).mono ?_; rintro e x8 ⟨rfl, hbx8⟩
        have XB8 := Lib.hid (XB7.out.trans (hbx8.mono XB7.out.size))
        clear hbx8
        go_wp2_with fail
        go_ret
        exact ⟨rfl, XB8.out⟩
      | ok t =>
        obtain ⟨o7x, c7x, rfl, hs7⟩ := hr7
        have XP := Lib.hid hp7
        have XS7 := Lib.hid hs7
        have htl : t.length ≤ 100000 := (printA_lt hp7).2
        clear hp7 hs7
        go_wp2_with fail
        refine (copyBytes_call XS7.out (by omega)).mono ?_
        rintro e x8 ⟨⟨vx8, rfl, hx8⟩, hbx8⟩
        have XB8 := Lib.hid (XB7.out.trans (hbx8.mono XB7.out.size))
        have XC8 := Lib.hid (XC7.out.below hbx8)
        have XN8 := Lib.hid (XN7.out.below hbx8)
        obtain ⟨ox8, cx8, rfl, htx8, hnx8⟩ := own_tx hx8
        have XT := Lib.hid htx8
        have XNO := Lib.hid hnx8
        clear hx8 hbx8 htx8 hnx8 XC7 XN7 d0 d1 d2 XB7
        go_wp2_with fail
        refine (wnew_call (cap := cx8) XT.out (by omega) XNO.out (fun j => getD_lt (printA_lt XP.out).1 j)).mono ?_
        rintro e x9 ⟨wy, owy, cwy, rfl, hwy, hx9, hbx9⟩
        have XB9 := Lib.hid (XB8.out.trans (hbx9.mono XB8.out.size))
        have XC9 := Lib.hid (XC8.out.below hbx9)
        have XB89 := Lib.hid hbx9
        have hwy8 := hwy
        have hwy' : w.heap.size ≤ wy := by have := XB8.out.size; omega
        have hne9 : ax ≠ wy := by have := XC8.out.lt; omega
        have XW9 := Lib.hid hx9
        clear hx9 hbx9 XT XNO XC8 XB8 hwy
        go_wp2_with fail
        refine (aparse_call XW9.out ere (fun j _ => tenP_all (getD_lt (printA_lt XP.out).1 j))).mono ?_
        rintro e x10 ⟨⟨vx10, he, hnx10, hwx10⟩, hbx10⟩
        rw [back_any XR.out.1 XP.out] at he hnx10 hwx10
        simp only at he hnx10 hwx10
        subst he
        obtain ⟨ox10, cx10, rfl, _, hvx10⟩ := hnx10.toV2 (by have := XKD.out.1; omega) XKD.out.2
        have XB10 := Lib.hid (XB9.out.trans ((hbx10.mono XB9.out.size).to_below hwy'))
        have XC10 := Lib.hid (XC9.out.nbut hbx10 XC9.out.lt hne9)
        have XN10 := Lib.hid hvx10
        have XW10 := Lib.hid hwx10
        have XM10 := Lib.hid (XN8.out.below (XB89.out.trans ((hbx10.mono XB89.out.size).to_below hwy8)))
        clear hnx10 hwx10 hbx10 hvx10 XC9 XN8 XW9 XB9
        have XD := Lib.hid (AdB.new x10 (.int .i8 bk) (.int .i64 bn) (.slice ox10 br.length cx10))
        have hbx11 := (Below.refl x10.heap.size x10).alloc (Nat.le_refl _) (.cells #[.int .i8 bk, .int .i64 bn, .slice ox10 br.length cx10] 54)
        have XC11 := Lib.hid (XC10.out.below hbx11)
        have XN11 := Lib.hid (XN10.out.below hbx11)
        have XM11 := Lib.hid (XM10.out.below hbx11)
        have XW11 := Lib.hid (XW10.out.below hbx11)
        have XB11 := Lib.hid (XB10.out.trans (hbx11.mono XB10.out.size))
        go_upto_region 21 with fail
        obtain ⟨ay, hay⟩ : ∃ a, x10.heap.size = a := ⟨_, rfl⟩
        obtain ⟨X11, hX11⟩ : ∃ W, x10.alloc (.cells #[.int .i8 bk, .int .i64 bn, .slice ox10 br.length cx10] 54) = W := ⟨_, rfl⟩
        rw [hX11] at XD XC11 XN11 XM11 XW11 XB11 ⊢
        rw [hay] at XD ⊢
        clear hX11 hay hbx11 XC10 XN10 XM10 XW10 XB10
        have d0 := XC11.out.c0
        have d1 := XC11.out.c1
        have d2 := XC11.out.c2
        have f0 := XD.out.c0
        have f1 := XD.out.c1
        have f2 := XD.out.c2
        go_wp2_with fail
        refine (eqAddr_same (cap := cx3) (cb := cx10) bk bn XM11.out XN11.out).mono ?_
        rintro e x12 ⟨rfl, hbx12⟩
        have XB12 := Lib.hid (XB11.out.trans (hbx12.mono XB11.out.size))
        have XW12 := Lib.hid (XW11.out.below hbx12)
        have XC12 := Lib.hid (XC11.out.below hbx12)
        clear hbx12 d0 d1 d2 f0 f1 f2 XD XC11 XN11 XM11 XW11 XB11
        have d0 := XC12.out.c0
        go_wp2_with fail
        refine (wat_call XW12.out).mono ?_; rintro e x13 ⟨rfl, rfl⟩
        have hiff := XR.out.2.1
        simp only at hiff
        have hkk := right_kind XR.out.1
        simp only at hkk
        obtain ⟨hkk1, hkk2⟩ := hkk
        by_cases hbat : bat = 0
        · have hbk0 := hiff.2 hbat
          subst hbk0
          subst hbat
          clear hiff
          go_wp2_with fail
          refine (works_call (HT.out.below XB12.out)).mono ?_; rintro e x14 ⟨rfl, hbx14⟩
          have XB14 := Lib.hid (XB12.out.trans (hbx14.mono XB12.out.size))
          clear hbx14
          go_wp2_with fail
          go_ret
          exact ⟨rfl, XB14.out⟩
        · have hbk0 : ¬ bk = 0 := fun e => hbat (hiff.1 e)
          have qbk : (bk == 0) = false := beq_eq_false_iff_ne.2 hbk0
          have qbat : ((bat : Int) == 0) = false := beq_eq_false_iff_ne.2 (by omega)
          clear hiff
          go_wp2_with fail
          refine (works_call (HT.out.below XB12.out)).mono ?_; rintro e x14 ⟨rfl, hbx14⟩
          have XB14 := Lib.hid (XB12.out.trans (hbx14.mono XB12.out.size))
          clear hbx14
          go_wp2_with fail
          go_ret
          exact ⟨rfl, XB14.out⟩
    · have hz := read_zero HR3.out hbe
      have qbe : ((be : Int) != 0) = true := bne_iff_ne.2 (by omega)
      obtain ⟨rfl, rfl, rfl⟩ : bk = 0 ∧ bn = 0 ∧ br = [] := by
        have h1 := congrArg Ad.kind hz
        have h2 := congrArg Ad.n hz
        have h3 := congrArg Ad.re hz
        exact ⟨h1, h2, h3⟩
      clear hz hbe
      go_wp2_with fail
      refine (eqAddr_same (oa := ox3) (cap := cx3) (ob := none) (cb := 0) (re := []) 0 0 XN4.out ⟨by decide, fun h => by simp at h⟩).mono ?_
      rintro e x6 ⟨rfl, hbx6⟩
      have XB6 := Lib.hid (XB4.out.trans (hbx6.mono XB4.out.size))
      clear hbx6
      go_wp2_with fail
      refine (works_call (HT.out.below XB6.out)).mono ?_; rintro e x7 ⟨rfl, hbx7⟩
      have XB7 := Lib.hid (XB6.out.trans (hbx7.mono XB6.out.size))
      clear hbx7
      go_wp2_with fail
      go_ret
      exact ⟨rfl, XB7.out⟩
end
end Go.Proofs.YtfjbnpdffillbaaGreatDoor
