/- Contracts: a world of lines, mute or not: note, lends. No condition. -/
import Derived.Test.YtdinjlglngpecaaGreatDoorSda
namespace Go.Proofs.YtdinjlglngpecaaGreatDoor
open Go.RowKit

theorem elCall : ElT Tryz.prog 40 320 3 48 (.agg #[.int .i64 0, .string ⟨#[]⟩, .slice none 0 0]) := ⟨Tryz.underlying40, by kernel_rfl, rfl, by decide⟩
theorem elSB : ElT Tryz.prog 22 33 1 24 (.slice none 0 0) := ⟨Tryz.underlying22, by kernel_rfl, rfl, by decide⟩
section
variable {w w' : World} {b base m ca n u s : Nat} {mu : Bool} {oa : Option Addr} {O : Nat → Option Nat} {A : List Nat}
theorem Src.keep {v : Value} {k : Nat} {xs : List Value} (h : Src w v k xs) {S : Nat → Prop} (hk : Kept w w' S) (hS : ∀ x, v.ownBlock = some x → ¬ S x) : Src w' v k xs := by
  rcases h with h | ⟨a, c, h, hj⟩
  · exact .inl h
  · subst h
    exact .inr ⟨a, c, rfl, fun j u hu => by
      have hc := hj j u hu
      have e : (a.add j).block = a.block := by unfold Addr.add; split <;> rfl
      exact (hk.cell (World.block_lt_of_cell? w _ hc) (by rw [e]; exact hS _ rfl)).trans hc⟩
/-- What a call of the world's own leaves. -/
structure Adds (w w' : World) (b : Nat) (O O' : Nat → Option Nat) : Prop where
  kept : Kept w w' (fun k => k = b ∨ foot O k)
  grow : ∀ k, foot O' k → foot O k ∨ w.heap.size ≤ k
theorem Adds.refl (w : World) (b : Nat) (O : Nat → Option Nat) : Adds w w b O O := ⟨Kept.refl _ _, fun _ h => .inl h⟩
theorem Adds.trans {w1 : World} {O1 O2 : Nat → Option Nat} (h : Adds w w1 b O O1) (h2 : Adds w1 w' b O1 O2) : Adds w w' b O O2 :=
  ⟨h.kept.trans h2.kept fun k hk e => e.elim .inl fun f => (h.grow k f).elim .inr fun g => absurd hk (by omega), fun k hk => (h2.grow k hk).elim (fun f => h.grow k f) fun g => .inr (Nat.le_trans h.kept.size g)⟩
theorem Adds.then (h : Adds w w' b O O) {w2 : World} (hb : Below w'.heap.size w' w2) : Adds w w2 b O O :=
  ⟨h.kept.trans (Kept.of_below hb (fun _ => False) fun j hj hj2 => absurd hj2 (by omega)) fun _ _ e => e.elim, h.grow⟩
theorem Adds.below {O' : Nat → Option Nat} (h : Adds w w' b O O') {w2 : World} (hb : Below w'.heap.size w' w2) : Adds w w2 b O O' :=
  ⟨h.kept.trans (Kept.of_below hb (fun _ => False) fun j hj hj2 => absurd hj2 (by omega)) fun _ _ e => e.elim, h.grow⟩
theorem Adds.set (w : World) (b : Nat) (O : Nat → Option Nat) (i : Nat) (v : Value) : Adds w (w.setCell ⟨b, i, none⟩ v) b O O := ⟨(Kept.setCell w ⟨b, i, none⟩ v).mono fun _ _ e => .inl e, fun _ h => .inl h⟩
/-- A row of the world has grown by an append. -/
theorem WlM.grew (h : WlM w b base mu oa m ca n u s O A) (hb : b < base) {i : Nat} (hi : i ∈ rowsL) {v v2 : Value} (q : w.cell? ⟨b, i, none⟩ = some v) {k : Nat} {cs : List Value} {A' : List Nat} (hg : w.grownBy w' v.ownBlock) (ho : w'.ownsRow base (rowT i).1 (rowT i).2 v2 k cs) (hor : v2.ownBlock = v.ownBlock ∨ v2.ownBlock = some w.heap.size) (hA : i = 19 → k = A'.length ∧ cs = u8s A') (hB : i ≠ 19 → k ≤ s + 1 ∧ A' = A) :
    Hid (WlM (w'.setCell ⟨b, i, none⟩ v2) b base mu oa m ca n u (s + 1) (upd O i v2.ownBlock) A') ∧ Hid (Adds w (w'.setCell ⟨b, i, none⟩ v2) b O (upd O i v2.ownBlock)) ∧ w'.cell? ⟨b, i, none⟩ = some v ∧ w'.frozen? ⟨b, i, none⟩ = false ∧ b < w'.heap.size := by
  have hr := h.setRow hb hi q hg ho (fun x hx => hor.imp (fun e => e.symm.trans hx) fun e => Nat.le_of_eq (Option.some.inj (e.symm.trans hx))) hA hB
  obtain ⟨v', k', cs', e1, e2, _⟩ := h.rows i hi
  cases q.symm.trans e1
  have hbl : w'.heap[b]? = w.heap[b]? := hg.block b h.lt fun e => by have := (e2.lt b e.symm).1; omega
  exact ⟨Lib.hid hr.1, Lib.hid ⟨hr.2.1, hr.2.2⟩, (World.cell?_of_block (a := ⟨b, i, none⟩) hbl).trans q, (World.frozen?_of_block (a := ⟨b, i, none⟩) hbl).trans (h.fz i), Nat.lt_of_lt_of_le h.lt hg.size⟩
set_option maxRecDepth 100000 in
set_option maxHeartbeats 3200000 in
theorem note_call (h : WlM w b base mu oa m ca n u s O A) (hb : b < base) (hbw : base ≤ w.heap.size) (hs : s ≤ 1099511627776) {kind : Int} (hki : kind = 0 ∨ kind = 1) (name : ByteArray) {ob : Option Addr} {cb : Nat} {T : List Nat} (ht : Src w (.slice ob T.length cb) T.length (u8s T)) (hl : T.length ≤ 1099511627776) (hx : ∀ x, (Value.slice ob T.length cb).ownBlock = some x → x ≠ b) :
    Calls Tryz.prog 219 #[.pointer (some ⟨b, 0, none⟩), .int .i64 kind, .string name, .slice ob T.length cb] w fun e w' => e = .returned (.tuple #[]) ∧ ∃ O', WlM w' b base mu oa m ca n u (s + 3 + T.length) O' A ∧ Adds w w' b O O' := by
  have H := Lib.hid h
  have HBB := Lib.hid hb
  have HBW := Lib.hid hbw
  have HKI := Lib.hid hki
  have HT := Lib.hid ht
  have HS := Lib.hid hs
  have HL := Lib.hid hl
  obtain ⟨t, c18, ht18⟩ := h.c18
  have HT18 := Lib.hid ht18
  have y0 : (t : Int) ≤ 1099511627776 := by omega
  clear ht18
  have z18 := h.fz 18
  have hlt := h.lt
  have c12 := h.c12
  have y1 : (s : Int) ≤ 1099511627776 := by omega
  have y2 : (T.length : Int) ≤ 1099511627776 := by omega
  have HX := Lib.hid hx
  clear h hb hbw hs hl ht hx hki
  go_enter Tryz.func219, Tryz.ntmps219
  cases mu
  case true =>
    go_wp2_with fail
    refine bodyPost_ret (results_none rfl _ _ _) rfl ?_
    rw [show (t : Int) + 1 + (T.length : Int) = ((t + 1 + T.length : Nat) : Int) by omega]
    exact ⟨rfl, O, (H.out.setS HBB.out (s' := s + 1 + T.length) (t' := t + 1 + T.length) (by omega) (by have := HT18.out; omega)).mono (by omega), Adds.set _ _ _ _ _⟩
  go_upto_region 2 with fail
  rw [show (t : Int) + 1 + (T.length : Int) = ((t + 1 + T.length : Nat) : Int) by omega]
  have H1 := Lib.hid (H.out.setS HBB.out (s' := s + 1 + T.length) (t' := t + 1 + T.length) (by omega) (by have := HT18.out; omega))
  have HA1 := Lib.hid (Adds.set w b O 18 (.int .i64 ((t + 1 + T.length : Nat) : Int)))
  have HT1 := Lib.hid (HT.out.keep (Kept.setCell w ⟨b, 18, none⟩ (.int .i64 ((t + 1 + T.length : Nat) : Int))) fun x hx e => HX.out x hx e)
  obtain ⟨v21, k21, cs21, q1, q2, q3, _, q5⟩ := H.out.rows 21 (by simp [rowsL])
  have Q1 := Lib.hid ((World.cell?_setCell_other w ⟨b, 18, none⟩ ⟨b, 21, none⟩ (.int .i64 ((t + 1 + T.length : Nat) : Int)) (by intro e; cases e)).trans q1)
  have Q2 := Lib.hid ((Kept.setCell w ⟨b, 18, none⟩ (.int .i64 ((t + 1 + T.length : Nat) : Int))).row q2 fun z hz e => by have := (q2.lt z hz).1; have := HBB.out; have e' : z = b := e; omega)
  have Q3 := Lib.hid q3
  have Q5 := Lib.hid (q5 (by decide))
  clear q1 q2 q3 q5
  obtain ⟨W, hW⟩ : ∃ W, w.setCell ⟨b, 18, none⟩ (.int .i64 ((t + 1 + T.length : Nat) : Int)) = W := ⟨_, rfl⟩
  rw [hW] at H1 HA1 HT1 Q1 Q2 ⊢
  clear hW c18 z18 hlt c12
  have hbd : Below W.heap.size W W.drew := (Below.refl _ _).drew
  have HC := Lib.hid (copyBytes_call (HT1.out.below hbd) (by have := HL.out; omega))
  have HAD := Lib.hid (HA1.out.then hbd)
  have HHD := Lib.hid (H1.out.below hbd)
  have HTD := Lib.hid (HT1.out.below hbd)
  have q1 := Q1.out
  have Q2 := Lib.hid (ownsRow_of_block (w' := W.drew) Q2.out fun k hk => rfl)
  have z21 := H1.out.fz 21
  have hlt := H1.out.lt
  clear hbd
  refine wp_region_segs (X := none) 11 [([0, 1, 2, 3, 4, 5, 6, 7], 8), ([9], 10)] [] (by kernel_rfl) (by kernel_rfl) rfl (fun _ _ _ _ _ h => h) ?_
  simp only [wpSegs, pickSegs_nil, pickSegs_cons, pickOps_nil, pickOps_cons, List.getD_cons_zero, List.getD_cons_succ, List.drop_succ_cons, List.drop_zero]
  repeat (go_big_quiet_step (fail))
  refine wpQuiet_nil ?_
  go_wp2_with fail
  refine HC.out.mono ?_; rintro e w1 ⟨⟨vT, rfl, hoT⟩, hb1⟩
  obtain ⟨oT, cT, rfl⟩ := own_form hoT
  have HB1 := Lib.hid hb1
  have HH1 := Lib.hid (HHD.out.below hb1)
  have HT2 := Lib.hid (HTD.out.below hb1)
  have HA2 := Lib.hid (HAD.out.then hb1)
  have HO1 := Lib.hid (ownsRow_of_block Q2.out fun k hk => hb1.block k (Q2.out.lt k hk).2)
  have HQ1 := Lib.hid ((hb1.cell (p := ⟨b, 21, none⟩) hlt).trans q1)
  dsimp only
  go_wp2_with fail
  refine ⟨Keeps.of_below hb1, ?_⟩
  repeat (go_big_quiet_step (fail))
  refine wpQuiet_nil ?_
  go_wp2_with fail
  refine ⟨keeps_alloc _ _, ?_⟩
  repeat (go_big_quiet_step (fail))
  refine wpQuiet_nil ?_
  clear hoT hb1 q1 z21 hlt
  have hba : Below w1.heap.size w1 (w1.alloc (.cells #[.int .i64 kind, .string name, .slice oT T.length cT] 320)) := (Below.refl _ _).alloc (Nat.le_refl _) _
  have HHA := Lib.hid (HH1.out.below hba)
  have HTA := Lib.hid (HT2.out.below hba)
  have HAA := Lib.hid (HA2.out.then hba)
  have HQA := Lib.hid ((hba.cell (p := ⟨b, 21, none⟩) HH1.out.lt).trans HQ1.out)
  clear hba
  go_wp2_with (at_builtin; refine wpList_app elCall rfl _ _ rfl base (n := k21) (m := 1) (news := [.int .i64 kind, .string name, .slice oT T.length cT]) rfl (ownsRow_of_block HO1.out fun k hk => heap_alloc_old _ _ (HO1.out.lt k hk).2) rfl (Src.new w1 [.int .i64 kind, .string name, .slice oT T.length cT] _ _ _) rfl (by simp [Value.oneCell']) (by have := Q5.out; have := HS.out; unfold maxLen; omega) (by have := Q5.out; have := HS.out; omega) (by have := HB1.out.size; have := HBW.out; have := HAD.out.kept.size; simp; omega) ?_)
  intro v2 w2 ho2 hg2 hor2
  obtain ⟨o2, k2, rfl⟩ := own_form ho2
  obtain ⟨HH3, HAX, c21, z21, hlt⟩ := HHA.out.grew HBB.out (i := 21) (by simp [rowsL]) HQA.out hg2 ho2 (hor2.imp id fun e => e.trans (by simp)) (A' := A) (fun e => by cases e) (fun _ => ⟨by have := Q5.out; omega, rfl⟩)
  have HA3 := Lib.hid (HAA.out.trans HAX.out)
  clear ho2 hg2 hor2 HAX HC HT1 HQ1 HHA HAA HQA HTA HO1 HT2 HH1 HHD HAD HTD Q2 Q1 H1 HA1
  go_upto_region 3 with fail
  obtain ⟨V, hV⟩ : ∃ V, w2.setCell ⟨b, 21, none⟩ (.slice o2 (k21 + 1) k2) = V := ⟨_, rfl⟩
  rw [hV] at HH3 HA3 ⊢
  clear hV c21 z21 hlt
  rcases HKI.out with rfl | rfl
  · go_wp2_with fail
    go_end0
    exact ⟨rfl, _, HH3.out.mono (by omega), HA3.out⟩
  obtain ⟨v22, k22, cs22, q1, q2, q3, _, q5⟩ := HH3.out.rows 22 (by simp [rowsL])
  have Q5 := Lib.hid (q5 (by decide))
  have Q22 := Lib.hid q2
  have Q1 := Lib.hid q1
  have Q3 := Lib.hid q3
  obtain ⟨o22, c22, rfl⟩ := own_form q2
  have z22 := HH3.out.fz 22
  have hlt := HH3.out.lt
  clear q2 q3 q5
  have hba : Below V.heap.size V (V.alloc (.cells #[.slice ob T.length cb] 33)) := (Below.refl _ _).alloc (Nat.le_refl _) _
  have HHA := Lib.hid (HH3.out.below hba)
  have HAA := Lib.hid (HA3.out.below hba)
  have HQA := Lib.hid ((hba.cell (p := ⟨b, 22, none⟩) HH3.out.lt).trans q1)
  clear hba
  go_wp2_with (at_builtin; refine wpList_app elSB rfl _ _ rfl base (n := k22) (m := 1) (news := [.slice ob T.length cb]) rfl (ownsRow_of_block Q22.out fun k hk => heap_alloc_old _ _ (Q22.out.lt k hk).2) rfl (Src.new V [.slice ob T.length cb] _ _ _) rfl (by simp [Value.oneCell']) (by have := Q5.out; have := HS.out; unfold maxLen; omega) (by have := Q5.out; have := HS.out; omega) (by have := HBW.out; have := HA3.out.kept.size; simp; omega) ?_)
  intro v4 w4 ho4 hg4 hor4
  obtain ⟨o4, k4, rfl⟩ := own_form ho4
  obtain ⟨HH5, HAX, c22, z22, hlt⟩ := HHA.out.grew HBB.out (i := 22) (by simp [rowsL]) HQA.out hg4 ho4 (hor4.imp id fun e => e.trans (by simp)) (A' := A) (fun e => by cases e) (fun _ => ⟨by have := Q5.out; omega, rfl⟩)
  have HA5 := Lib.hid (HAA.out.trans HAX.out)
  clear ho4 hg4 hor4 HAX HHA HAA HQA
  go_wp2_with fail
  go_end0
  exact ⟨rfl, _, HH5.out.mono (by omega), HA5.out⟩
end
end Go.Proofs.YtdinjlglngpecaaGreatDoor
