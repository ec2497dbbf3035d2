/- Parts: Ro Rp Pa Pc Pd Pe. -/
import Derived.Test.YtbdjcmhfcdamiaaGreatDoorQ16
import Derived.Test.YtbdjcmhfcdamiaaGreatDoorQ17
import Derived.Test.YtbdjcmhfcdamiaaGreatDoorQ6
import Derived.Test.YtbdjcmhfcdamiaaGreatDoorQ1
/- Contract of package syntax's Parse. -/
namespace Go.Proofs.YtbdjcmhfcdamiaaGreatDoor
open Go.RowKit

/-- Nodes that may stand there. -/
def okAt (re : List Nd) (p : Nat) : Prop := ∃ x, re[p]? = some x ∧ goodN x = true ∧ x.kids ≤ re.length
theorem nodeN_good_kids {re : List Nd} {g : Nat → List Bool → Option (Nat × List Bool)} (hg : ∀ i en r, g i en = some r → i < r.1 ∧ r.1 ≤ re.length ∧ ∀ p, i ≤ p → p < r.1 → okAt re p) :
    ∀ (k i : Nat) (en : List Bool) (r : Nat × List Bool), i ≤ re.length → kidsN g k i en = some r → i + k ≤ r.1 ∧ r.1 ≤ re.length ∧ ∀ p, i ≤ p → p < r.1 → okAt re p
  | 0, i, en, r, hi, h => by simp only [kidsN, Option.some.injEq] at h; subst h; exact ⟨Nat.le_refl _, hi, fun p h1 h2 => by simp only at h2; omega⟩
  | k + 1, i, en, r, hi, h => by
    unfold kidsN at h
    split at h
    · cases h
    · rename_i j en1 h1
      have h2 := hg _ _ _ h1
      simp only at h2
      have h3 := nodeN_good_kids hg k _ _ _ h2.2.1 h
      refine ⟨by omega, h3.2.1, fun p hp1 hp2 => ?_⟩
      by_cases hj : p < j
      · exact h2.2.2 p hp1 hj
      · exact h3.2.2 p (by omega) hp2
/-- All nodes of what is well shaped are good. -/
theorem nodeN_good (re : List Nd) : ∀ (f g i : Nat) (en : List Bool) (r : Nat × List Bool), nodeN re f g i en = some r → i < r.1 ∧ r.1 ≤ re.length ∧ ∀ p, i ≤ p → p < r.1 → okAt re p
  | 0, _, _, _, _, h => by simp [nodeN] at h
  | f + 1, g, i, en, r, h => by
    unfold nodeN at h
    split at h
    · cases h
    · rename_i n hn
      split at h
      · cases h
      · rename_i hgd
        have hgd' : goodN n = true := by simpa using hgd
        have hi : i < re.length := (List.getElem?_eq_some_iff.1 hn).1
        have fin : ∀ (g' : Nat) (en1 : List Bool) (r1 : Nat × List Bool), kidsN (nodeN re f g') n.kids.toNat (i + 1) en1 = some r1 → i < r1.1 ∧ r1.1 ≤ re.length ∧ ∀ p, i ≤ p → p < r1.1 → okAt re p := fun g' en1 r1 hk => by
          have h1 := nodeN_good_kids (re := re) (fun i en r => nodeN_good re f g' i en r) _ _ _ _ (by omega) hk
          refine ⟨by have := h1.1; omega, h1.2.1, fun p hp1 hp2 => ?_⟩
          by_cases he : p = i
          · subst he
            exact ⟨n, hn, hgd', by have := h1.1; have := h1.2.1; omega⟩
          · exact h1.2.2 p (by omega) hp2
        split at h
        · cases h
        · split at h
          · split at h
            · cases h
            · split at h
              · cases h
              · rename_i hk
                cases h
                have := fin _ _ _ hk
                exact this
          · exact fin _ _ _ h
theorem shaped_ok {re : List Nd} (h : ∀ p, p < re.length → okAt re p) : RepOk re ∧ ∀ x ∈ re, x.kids ≤ re.length := by
  have all : ∀ x ∈ re, goodN x = true ∧ x.kids ≤ re.length := fun x hx => by
    obtain ⟨p, hp⟩ := List.mem_iff_getElem?.1 hx
    obtain ⟨y, hy, hg⟩ := h p (List.getElem?_eq_some_iff.1 hp).1
    rw [hp] at hy; cases hy; exact hg
  refine ⟨fun x hx h6 => ?_, fun x hx => (all x hx).2⟩
  have := (all x hx).1
  simp only [goodN, h6, if_true, Bool.and_eq_true, decide_eq_true_eq, Bool.or_eq_true, beq_iff_eq] at this
  omega

/-- What Parse answers. -/
def parseL (ere : Bool) (L : List Mk) : Except (Nat × Nat) (List Nd) :=
  if 4096 < L.length then .error (2, 4096)
  else if L.length = 0 then .error (45, 0)
  else match sidesK ere L 64 ⟨0, []⟩ with
    | .no e i => .error (e, i)
    | .ok re _ => match weighN re 260 0 with
      | some (w, _) => if 16384 < w then .error (48, L.length) else .ok re
      | none => .error (0, 0)
end Go.Proofs.YtbdjcmhfcdamiaaGreatDoor

/- Contract of package syntax's Parse. -/
namespace Go.Proofs.YtbdjcmhfcdamiaaGreatDoor
open Go.RowKit

/-- What Parse hands back. -/
def ParR (w : World) (r : Except (Nat × Nat) (List Nd)) (e : Ending) (w' : World) : Prop :=
  match r with
  | .error (er, i) => e = .returned (.tuple #[.slice none 0 0, .int .i64 (er : Nat), .int .i64 (i : Nat)])
  | .ok re => ∃ v, e = .returned (.tuple #[v, .int .i64 0, .int .i64 0]) ∧ Nds w' w.heap.size v re

theorem ndsC_at : ∀ (re : List Nd) (i j : Nat), i < re.length → j < 9 → (ndsC re)[i * 9 + j]? = (ndCells (re.getD i Nd.zero))[j]?
  | [], i, j, h, _ => by simp at h
  | x :: l, 0, j, _, hj => by
    rw [ndsC_cons, List.getElem?_append_left (by simp [ndCells]; omega)]
    simp
  | x :: l, i + 1, j, h, hj => by
    rw [ndsC_cons, List.getElem?_append_right (by simp [ndCells]; omega)]
    have := ndsC_at l i j (by simpa using h) hj
    simpa [ndCells, show (i + 1) * 9 + j - 9 = i * 9 + j by omega] using this
theorem Nds.at {w : World} {base : Nat} {v : Value} {re : List Nd} (h : Nds w base v re) (hn : 0 < re.length) (hl : re.length ≤ 4294967296) (hk : ∀ x ∈ re, x.kids ≤ re.length) : ∃ g cp, v = .slice (some ⟨g, 0, none⟩) re.length cp ∧ base ≤ g ∧ NdAt w g 0 re := by
  rcases h.2 with ⟨_, h0⟩ | ⟨g, cp, cur, rfl, hg1, hg2, _⟩
  · omega
  · refine ⟨g, cp, rfl, hg1, ⟨(Array.getElem?_eq_some_iff.1 hg2).1, hl, fun i hi j => ?_, fun x hx => by have := hk x hx; omega⟩⟩
    by_cases hj : j < 9
    · left
      rw [World.ownsRow.cellAt h _ (by omega), show 0 + i * 9 + j = i * 9 + j by omega, ndsC_at re i j hi hj]
    · right; omega

theorem results_parse {tmps : Array Value} {W : World} {b4 b5 b6 : Nat} {oa : Option Addr} {n cp : Nat} {e i : Int} (t4 : tmps.getD 4 undef = .pointer (some ⟨b4, 0, none⟩)) (t5 : tmps.getD 5 undef = .pointer (some ⟨b5, 0, none⟩)) (t6 : tmps.getD 6 undef = .pointer (some ⟨b6, 0, none⟩))
    (c4 : W.cell? ⟨b4, 0, none⟩ = some (.slice oa n cp)) (c5 : W.cell? ⟨b5, 0, none⟩ = some (.int .i64 e)) (c6 : W.cell? ⟨b6, 0, none⟩ = some (.int .i64 i)) :
    (results Tryz.f19 tmps).run Tryz.prog W = .ok (.tuple #[.slice oa n cp, .int .i64 e, .int .i64 i]) W := by
  simp only [Array.getD_eq_getD_getElem?] at t4 t5 t6
  simp [results, Tryz.results19, go_sem, t4, t5, t6, c4, c5, c6]
/-- Three variables. -/
structure Vars (w W : World) (b4 b5 b6 : Nat) (x y z : Value) : Prop where
  c4 : W.cell? ⟨b4, 0, none⟩ = some x
  c5 : W.cell? ⟨b5, 0, none⟩ = some y
  c6 : W.cell? ⟨b6, 0, none⟩ = some z
  z4 : W.frozen? ⟨b4, 0, none⟩ = false
  z5 : W.frozen? ⟨b5, 0, none⟩ = false
  z6 : W.frozen? ⟨b6, 0, none⟩ = false
  b : Below w.heap.size w W
  l4 : w.heap.size ≤ b4
  l5 : b5 = b4 + 1
  l6 : b6 = b4 + 1 + 1
  lt : b4 + 1 + 1 < W.heap.size
theorem Vars.new (w : World) (x y z : Value) : Vars w (((w.alloc (.cells #[x] 22)).alloc (.cells #[y] 27)).alloc (.cells #[z] 3)) w.heap.size (w.heap.size + 1) (w.heap.size + 1 + 1) x y z := by
  have s1 : (w.alloc (.cells #[x] 22)).heap.size = w.heap.size + 1 := by simp
  have s2 : ((w.alloc (.cells #[x] 22)).alloc (.cells #[y] 27)).heap.size = w.heap.size + 1 + 1 := by simp
  have h4 : (((w.alloc (.cells #[x] 22)).alloc (.cells #[y] 27)).alloc (.cells #[z] 3)).heap[w.heap.size]? = some (.cells #[x] 22 (0, 0)) :=
    (heap_alloc_old _ _ (by omega)).trans ((heap_alloc_old _ _ (by omega)).trans (heap_alloc_new _ _))
  have h5 : (((w.alloc (.cells #[x] 22)).alloc (.cells #[y] 27)).alloc (.cells #[z] 3)).heap[w.heap.size + 1]? = some (.cells #[y] 27 (0, 0)) :=
    (heap_alloc_old _ _ (by omega)).trans (by rw [← s1]; exact heap_alloc_new _ _)
  have h6 : (((w.alloc (.cells #[x] 22)).alloc (.cells #[y] 27)).alloc (.cells #[z] 3)).heap[w.heap.size + 1 + 1]? = some (.cells #[z] 3 (0, 0)) := by
    rw [← s2]; exact heap_alloc_new _ _
  exact ⟨(cell_of_row _ _ 0 _ _ (0, 0) h4).trans rfl, (cell_of_row _ _ 0 _ _ (0, 0) h5).trans rfl, (cell_of_row _ _ 0 _ _ (0, 0) h6).trans rfl, frozen_of_row _ _ _ _ _ h4, frozen_of_row _ _ _ _ _ h5, frozen_of_row _ _ _ _ _ h6,
    (((Below.refl _ _).alloc (Nat.le_refl _) _).alloc (by omega) _).alloc (by omega) _, Nat.le_refl _, rfl, rfl, by simp⟩
theorem Vars.keep {w W W' : World} {b4 b5 b6 : Nat} {x y z : Value} (h : Vars w W b4 b5 b6 x y z) (hb : ∀ k, k ≤ b4 + 1 + 1 → W'.heap[k]? = W.heap[k]?) (hB : Below w.heap.size W W') : Vars w W' b4 b5 b6 x y z := by
  have e4 := hb b4 (by omega)
  have e5 := hb b5 (by rw [h.l5]; omega)
  have e6 := hb b6 (by rw [h.l6]; omega)
  exact ⟨(World.cell?_of_block (w := W) (a := ⟨b4, 0, none⟩) e4).trans h.c4, (World.cell?_of_block (w := W) (a := ⟨b5, 0, none⟩) e5).trans h.c5, (World.cell?_of_block (w := W) (a := ⟨b6, 0, none⟩) e6).trans h.c6,
    (World.frozen?_of_block (w := W) (a := ⟨b4, 0, none⟩) e4).trans h.z4, (World.frozen?_of_block (w := W) (a := ⟨b5, 0, none⟩) e5).trans h.z5, (World.frozen?_of_block (w := W) (a := ⟨b6, 0, none⟩) e6).trans h.z6,
    h.b.trans hB, h.l4, h.l5, h.l6, Nat.lt_of_lt_of_le h.lt hB.size⟩

theorem Vars.set {w W : World} {b4 b5 b6 : Nat} {x y z : Value} (h : Vars w W b4 b5 b6 x y z) (a b c : Value) : Vars w (((W.setCell ⟨b4, 0, none⟩ a).setCell ⟨b5, 0, none⟩ b).setCell ⟨b6, 0, none⟩ c) b4 b5 b6 a b c := by
  obtain ⟨c4, c5, c6, z4, z5, z6, hb, l4, rfl, rfl, lt⟩ := h
  refine ⟨?_, ?_, ?_, frozen_store _ _ _ _ (frozen_store _ _ _ _ (frozen_store _ _ _ _ z4)), frozen_store _ _ _ _ (frozen_store _ _ _ _ (frozen_store _ _ _ _ z5)), frozen_store _ _ _ _ (frozen_store _ _ _ _ (frozen_store _ _ _ _ z6)),
    ((hb.setCell l4 _).setCell (by show _ ≤ b4 + 1; omega) _).setCell (by show _ ≤ b4 + 1 + 1; omega) _, l4, rfl, rfl, by simpa using lt⟩
  · rw [World.cell?_setCell_other _ _ _ _ (by simp only [ne_eq, Addr.mk.injEq, not_and]; omega), World.cell?_setCell_other _ _ _ _ (by simp only [ne_eq, Addr.mk.injEq, not_and]; omega)]
    exact World.cell?_setCell_same _ _ _ c4
  · rw [World.cell?_setCell_other _ _ _ _ (by simp only [ne_eq, Addr.mk.injEq, not_and]; omega)]
    exact World.cell?_setCell_same _ _ _ ((World.cell?_setCell_other _ _ _ _ (by simp only [ne_eq, Addr.mk.injEq, not_and]; omega)).trans c5)
  · exact World.cell?_setCell_same _ _ _ ((World.cell?_setCell_other _ _ _ _ (by simp only [ne_eq, Addr.mk.injEq, not_and]; omega)).trans ((World.cell?_setCell_other _ _ _ _ (by simp only [ne_eq, Addr.mk.injEq, not_and]; omega)).trans c6))
theorem Vars.set1 {w W : World} {b4 b5 b6 : Nat} {x y z : Value} (h : Vars w W b4 b5 b6 x y z) (a : Value) : Vars w (W.setCell ⟨b4, 0, none⟩ a) b4 b5 b6 a y z := by
  obtain ⟨c4, c5, c6, z4, z5, z6, hb, l4, rfl, rfl, lt⟩ := h
  exact ⟨World.cell?_setCell_same _ _ _ c4, (World.cell?_setCell_other _ _ _ _ (by simp only [ne_eq, Addr.mk.injEq, not_and]; omega)).trans c5, (World.cell?_setCell_other _ _ _ _ (by simp only [ne_eq, Addr.mk.injEq, not_and]; omega)).trans c6,
    frozen_store _ _ _ _ z4, frozen_store _ _ _ _ z5, frozen_store _ _ _ _ z6, hb.setCell l4 _, l4, rfl, rfl, by simpa using lt⟩
theorem Nds.store {w : World} {base : Nat} {v : Value} {re : List Nd} (h : Nds w base v re) {b : Nat} (hb : ∀ g, v.ownBlock = some g → g ≠ b) (u : Value) : Nds (w.setCell ⟨b, 0, none⟩ u) base v re := h.block fun g hg => Below.heap_setCell _ _ _ _ (hb g hg)
theorem Nds.alloc {w : World} {base : Nat} {v : Value} {re : List Nd} (h : Nds w base v re) (o : Obj) : Nds (w.alloc o) base v re := h.below ((Below.refl _ _).alloc (Nat.le_refl _) _)
theorem NdAt.store {w : World} {nb no : Nat} {re : List Nd} (h : NdAt w nb no re) {b : Nat} (hb : nb ≠ b) (u : Value) : NdAt (w.setCell ⟨b, 0, none⟩ u) nb no re :=
  ⟨by simpa [World.setCell] using h.lt, h.len, fun i hi j => (h.c i hi j).imp (fun e => (World.cell?_setCell_other _ _ _ _ (by simp only [ne_eq, Addr.mk.injEq, not_and]; intro e; exact absurd e.symm hb)).trans e) id, h.k⟩
theorem Vars.alloc {w W : World} {b4 b5 b6 : Nat} {x y z : Value} (h : Vars w W b4 b5 b6 x y z) (o : Obj) : Vars w (W.alloc o) b4 b5 b6 x y z :=
  h.keep (fun k hk => Below.heap_alloc _ _ _ (by have := h.lt; omega)) ((Below.refl _ _).alloc h.b.size _)
theorem Vars.drew {w W : World} {b4 b5 b6 : Nat} {x y z : Value} (h : Vars w W b4 b5 b6 x y z) : Vars w W.drew b4 b5 b6 x y z :=
  h.keep (fun _ _ => rfl) (Below.refl _ _).drew

set_option maxRecDepth 100000 in
set_option maxHeartbeats 1600000 in
theorem parse_long {ere : Bool} {L : List Mk} {oa : Option Addr} {cap : Nat} {w : World} (hL : 4096 < L.length) :
    Calls Tryz.prog 19 #[.bool ere, .slice oa L.length cap] w fun e w' => ParR w (parseL ere L) e w' ∧ Below w.heap.size w w' := by
  have hL' : (4096 : Int) < (L.length : Int) := by omega
  have HP : Hid (parseL ere L = .error (2, 4096)) := by rw [Hid, parseL, if_pos hL]
  go_enter_defers Tryz.func19, Tryz.ntmps19
  go_wp2_with fail
  have hv := Vars.new w (.slice none 0 0) (.int .i64 2) (.int .i64 4096)
  exact ⟨_, results_parse rfl rfl rfl hv.c4 hv.c5 hv.c6, by rw [HP.out]; rfl, hv.b⟩
set_option maxRecDepth 100000 in
set_option maxHeartbeats 1600000 in
theorem parse_none {ere : Bool} {L : List Mk} {oa : Option Addr} {cap : Nat} {w : World} (hL : L.length = 0) :
    Calls Tryz.prog 19 #[.bool ere, .slice oa L.length cap] w fun e w' => ParR w (parseL ere L) e w' ∧ Below w.heap.size w w' := by
  have HP : Hid (parseL ere L = .error (45, 0)) := by rw [Hid, parseL, if_neg (by omega), if_pos hL]
  rw [hL]
  clear hL
  go_enter_defers Tryz.func19, Tryz.ntmps19
  go_wp2_with fail
  have hv := Vars.new w (.slice none 0 0) (.int .i64 45) (.int .i64 0)
  exact ⟨_, results_parse rfl rfl rfl hv.c4 hv.c5 hv.c6, by rw [HP.out]; rfl, hv.b⟩
set_option maxRecDepth 100000 in
set_option maxHeartbeats 1600000 in
theorem parse_some {ere : Bool} {L : List Mk} {mb mo cap : Nat} {w : World} (hL : 0 < L.length) (hm : MkAt w mb mo L) :
    Calls Tryz.prog 19 #[.bool ere, .slice (some ⟨mb, mo, none⟩) L.length cap] w fun e w' => ParR w (parseL ere L) e w' ∧ Below w.heap.size w w' := by
  have hmf : ∀ (fn : Fn) (first cap : Array Value) (w : World), (Instr.makeFunc fn first cap).run Tryz.prog w = .ok (.func fn first cap) w := fun _ _ _ _ => rfl
  have h1 : ¬ (4096 : Int) < (L.length : Int) := by have := hm.len; omega
  have h2 : ¬ (L.length : Int) = 0 := by omega
  have HP : Hid (parseL ere L = match sidesK ere L 64 ⟨0, []⟩ with
    | .no e i => .error (e, i)
    | .ok re _ => match weighN re 260 0 with
      | some (w, _) => if 16384 < w then .error (48, L.length) else .ok re
      | none => .error (0, 0)) := by rw [Hid, parseL, if_neg (by omega), if_neg (by omega)] <;> rfl
  have HM := Lib.hid hm
  clear hm
  go_enter_defers Tryz.func19, Tryz.ntmps19
  go_wp2_with fail
  have hv := Vars.new w (.slice none 0 0) (.int .i64 0) (.int .i64 0)
  revert hv
  generalize ((w.alloc (.cells #[.slice none 0 0] 22)).alloc (.cells #[.int .i64 0] 27)).alloc (.cells #[.int .i64 0] 3) = W3
  intro hv
  have HB3 := Lib.hid hv.b
  refine (newReader_rd ere (HM.out.below hv.b)).mono ?_
  rintro e W4 ⟨rfl, hr4, hb4⟩
  have HV4 := Lib.hid (hv.keep (fun k hk => hb4.block k (by have := hv.lt; omega)) (hb4.mono hv.b.size))
  have hlt3 := hv.lt
  clear hv
  obtain ⟨rb, hrb⟩ : ∃ rb, W3.heap.size = rb := ⟨_, rfl⟩
  rw [hrb] at hr4 hb4 hlt3
  have HR4 := Lib.hid hr4
  clear hr4
  go_wp2_with fail
  refine (sides_any (Nat.le_refl 64) W4 ⟨0, []⟩ _ HR4.out).mono ?_
  rintro e W5 ⟨hb5, hp5⟩
  have hV5 := HV4.out.keep (fun k hk => hb5.block k (by have := HV4.out.lt; omega) (by omega) (by simp [Value.ownBlock]))
    ⟨hb5.os, hb5.tape, hb5.output, hb5.size, fun k hk => hb5.block k (by have := HV4.out.lt; omega) (by omega) (by simp [Value.ownBlock])⟩
  have HV5 := Lib.hid hV5
  cases hs : sidesK ere L 64 ⟨0, []⟩ with
  | no er p =>
    have HF : Hid (parseL ere L = .error (er, p)) := by rw [Hid, HP.out, hs]
    rw [hs] at hp5
    simp only [faults] at hp5
    subst hp5
    clear hV5 hb5 hb4
    go_wp2_with fail
    refine leaves_cons (f := 55) (args := #[.pointer (some ⟨w.heap.size, 0, none⟩), .pointer (some ⟨w.heap.size + 1, 0, none⟩), .pointer (some ⟨w.heap.size + 1 + 1, 0, none⟩)]) (by simp) (by simp [go_sem]) ?_
    refine (catch_fault _ _ _ er p [] W5 HV5.out.c4 HV5.out.c5 HV5.out.c6 HV5.out.z4 HV5.out.z5 HV5.out.z6 (by omega) (by omega) (by omega)).mono ?_
    rintro e u' w'' ⟨rfl, rfl, rfl⟩
    have hve := ((HV5.out.set (.slice none 0 0) (.int .i64 (er : Nat)) (.int .i64 (p : Nat))).alloc (.cells #[.int .i64 (er : Nat), .int .i64 (p : Nat)] 85)).drew
    exact ⟨_, results_parse rfl rfl rfl hve.c4 hve.c5 hve.c6, by rw [HF.out]; rfl, hve.b⟩
  | ok re t =>
    rw [hs] at hp5
    simp only at hp5
    obtain ⟨v, ev5, rfl, hr5, hn5, hrow5⟩ := hp5
    have htop := sidesK_top hs
    have hgood := nodeN_good re _ _ _ _ _ htop
    have hok := shaped_ok (fun p hp => hgood.2.2 p (Nat.zero_le _) hp)
    have hpos : 0 < re.length := hgood.1
    have hsm := sidesK_small HM.out.u 64 (by simp) hs
    have hri := (sidesK_rise HM.out.u 64 (by simp) hs).le
    obtain ⟨wt, hwt⟩ := weighN_of_nodeN re _ _ _ _ _ _ htop
    obtain ⟨g, cp, rfl, hg1, hnd⟩ := hrow5.nds.at hpos (by simp only at hsm; omega) hok.2
    have HF : Hid (parseL ere L = if 16384 < wt then .error (48, L.length) else .ok re) := by rw [Hid, HP.out, hs]; simp only [hwt]
    have d4 := hV5.c4
    have y4 := hV5.z4
    have l4 : w.heap.size < W5.heap.size := by have := hV5.lt; omega
    have HROW := Lib.hid hrow5
    have HND := Lib.hid hnd
    clear hV5 hr5 hn5 htop hgood hnd hrow5
    go_wp2_with fail
    have hlw := HV4.out.lt
    have hg4 : g ≠ w.heap.size := by omega
    refine (weigh_any hok.1 260 0 (wt, re.length) _ 0 rfl (HND.out.store hg4 _) hwt).mono ?_
    rintro e W7 ⟨rfl, hb7⟩
    have hV6 := HV5.out.set1 (.slice (some ⟨g, 0, none⟩) re.length cp)
    have hV7 := hV6.keep (fun k hk => hb7.block k (by have := hV6.lt; omega)) (hb7.mono hV6.b.size)
    have hN7 := ((HROW.out.nds.mono HV4.out.b.size).store (b := w.heap.size) (fun x hx => by simp only [Value.ownBlock, Option.some.injEq] at hx; omega) (.slice (some ⟨g, 0, none⟩) re.length cp)).below hb7
    have HV7 := Lib.hid hV7
    have HN7 := Lib.hid hN7
    have e4 := hV7.c4
    have e5 := hV7.c5
    have e6 := hV7.c6
    have x4 := hV7.z4
    have x5 := hV7.z5
    have x6 := hV7.z6
    have l7 := hV7.lt
    have l71 : w.heap.size < W7.heap.size := by omega
    have l72 : w.heap.size + 1 < W7.heap.size := by omega
    clear hV6 hV7 hN7 hb7 d4 y4 l4
    by_cases hw : 16384 < wt
    · have HE : Hid (parseL ere L = .error (48, L.length)) := by rw [Hid, HF.out, if_pos hw]
      go_wp2_with fail
      refine leaves_cons (f := 55) (args := #[.pointer (some ⟨w.heap.size, 0, none⟩), .pointer (some ⟨w.heap.size + 1, 0, none⟩), .pointer (some ⟨w.heap.size + 1 + 1, 0, none⟩)]) (by simp) (by simp [go_sem]) ?_
      refine (catch_idle _ _ _ _).mono ?_
      rintro e u' w'' ⟨rfl, rfl, rfl⟩
      have hve := (HV7.out.set (.slice none 0 0) (.int .i64 48) (.int .i64 (L.length : Nat))).alloc (.cells #[.int .i64 0, .int .i64 0] 85)
      exact ⟨_, results_parse rfl rfl rfl hve.c4 hve.c5 hve.c6, by rw [HE.out]; rfl, hve.b⟩
    · have HE : Hid (parseL ere L = .ok re) := by rw [Hid, HF.out, if_neg hw]
      go_wp2_with fail
      refine leaves_cons (f := 55) (args := #[.pointer (some ⟨w.heap.size, 0, none⟩), .pointer (some ⟨w.heap.size + 1, 0, none⟩), .pointer (some ⟨w.heap.size + 1 + 1, 0, none⟩)]) (by simp) (by simp [go_sem]) ?_
      refine (catch_idle _ _ _ _).mono ?_
      rintro e u' w'' ⟨rfl, rfl, rfl⟩
      have hve := (HV7.out.set (.slice (some ⟨g, 0, none⟩) re.length cp) (.int .i64 0) (.int .i64 0)).alloc (.cells #[.int .i64 0, .int .i64 0] 85)
      have n1 : ∀ x, (Value.slice (some ⟨g, 0, none⟩) re.length cp).ownBlock = some x → x ≠ w.heap.size := fun x hx => by simp only [Value.ownBlock, Option.some.injEq] at hx; omega
      have n2 : ∀ x, (Value.slice (some ⟨g, 0, none⟩) re.length cp).ownBlock = some x → x ≠ w.heap.size + 1 := fun x hx => by simp only [Value.ownBlock, Option.some.injEq] at hx; omega
      have n3 : ∀ x, (Value.slice (some ⟨g, 0, none⟩) re.length cp).ownBlock = some x → x ≠ w.heap.size + 1 + 1 := fun x hx => by simp only [Value.ownBlock, Option.some.injEq] at hx; omega
      have hne := (((HN7.out.store n1 (.slice (some ⟨g, 0, none⟩) re.length cp)).store n2 (.int .i64 0)).store n3 (.int .i64 0)).alloc (.cells #[.int .i64 0, .int .i64 0] 85)
      exact ⟨_, results_parse rfl rfl rfl hve.c4 hve.c5 hve.c6, by rw [HE.out]; exact ⟨_, rfl, hne⟩, hve.b⟩
/-- Parse, whatever the list: of its marks nothing is asked where it is too long or empty. -/
theorem parse_call {ere : Bool} {L : List Mk} {oa : Option Addr} {cap : Nat} {w : World} (hm : 0 < L.length → L.length ≤ 4096 → ∃ mb mo, oa = some ⟨mb, mo, none⟩ ∧ MkAt w mb mo L) :
    Calls Tryz.prog 19 #[.bool ere, .slice oa L.length cap] w fun e w' => ParR w (parseL ere L) e w' ∧ Below w.heap.size w w' := by
  by_cases h1 : 4096 < L.length
  · exact parse_long h1
  · by_cases h2 : L.length = 0
    · exact parse_none h2
    · obtain ⟨mb, mo, rfl, h⟩ := hm (by omega) (by omega)
      exact parse_some (by omega) h
end Go.Proofs.YtbdjcmhfcdamiaaGreatDoor

/- Plain laws of the reader: what its errors are like. -/
namespace Go.Proofs.YtbdjcmhfcdamiaaGreatDoor

/-- What an error is like: it is none of nothing, its place is among the marks; some stand at a mark. -/
def Bad (L : List Mk) (e i : Nat) : Prop := e ≠ 0 ∧ i ≤ L.length ∧ (e = 40 ∨ e = 42 ∨ e = 44 ∨ e = 46 ∨ e = 47 → i < L.length)
theorem Bad.mk' {L : List Mk} {e i : Nat} (h0 : e ≠ 0) (h : i < L.length) : Bad L e i := ⟨h0, Nat.le_of_lt h, fun _ => h⟩

theorem f3 {L : List Mk} {e i : Nat} {f : Nat × Nat} (h : (e, i) = f) (h1 : 30 ≤ e) (h2 : e ≤ 32) (h3 : i < L.length) : 30 ≤ f.1 ∧ f.1 ≤ 32 ∧ f.2 < L.length := by
  subst h; exact ⟨h1, h2, h3⟩
theorem nameL_bad {L : List Mk} {at0 b : Nat} (ha : at0 < L.length) (hb : b < L.length) : ∀ (n i : Nat) (s : List Nat) (x : Th) (f : Nat × Nat), nameL L at0 b n i s = (x, some f) → 30 ≤ f.1 ∧ f.1 ≤ 32 ∧ f.2 < L.length
  | 0, _, _, _, _, h => by simp only [nameL, Prod.mk.injEq, Option.some.injEq] at h; exact f3 h.2 (by decide) (by decide) ha
  | n + 1, i, s, x, f, h => by
    unfold nameL at h
    split at h
    · split at h
      · simp only [Prod.mk.injEq, Option.some.injEq] at h; exact f3 h.2 (by decide) (by decide) hb
      · simp at h
    · exact nameL_bad ha hb n _ _ _ _ h
theorem thingTh_bad {L : List Mk} {at0 b : Nat} {x : Th} {f : Nat × Nat} (ha : at0 < L.length) (h : thingTh L at0 b = (x, some f)) : 30 ≤ f.1 ∧ f.1 ≤ 32 ∧ f.2 < L.length := by
  unfold thingTh at h
  split at h
  · simp only [Prod.mk.injEq, Option.some.injEq] at h; exact f3 h.2 (by decide) (by decide) ha
  · rename_i hb
    split at h
    · unfold nameTh at h; exact nameL_bad ha (by omega) _ _ _ _ _ h
    · split at h
      · unfold enclosedTh at h
        repeat' (split at h)
        all_goals first
          | (simp only [Prod.mk.injEq, Option.some.injEq] at h; exact f3 h.2 (by decide) (by decide) (by omega))
          | (simp at h; done)
      · simp at h
theorem thingTh_at {L : List Mk} {at0 b : Nat} {x : Th} (h : thingTh L at0 b = (x, none)) : b < L.length := by
  unfold thingTh at h
  split at h
  · simp at h
  · omega
theorem itemTh_bad {L : List Mk} {at0 b : Nat} {fst : Bool} {x : Th} {f : Nat × Nat} (ha : at0 < L.length) (h : itemTh L at0 b fst = (x, some f)) : 30 ≤ f.1 ∧ f.1 ≤ 32 ∧ f.2 < L.length := by
  unfold itemTh at h
  split at h
  · rename_i hx
    simp only [Prod.mk.injEq, Option.some.injEq] at h
    rw [← h.2]
    exact thingTh_bad ha hx
  · rename_i a hx
    have hb := thingTh_at hx
    repeat' (split at h)
    all_goals first
      | (simp only [Prod.mk.injEq, Option.some.injEq] at h; first | exact f3 h.2 (by decide) (by decide) ha | exact f3 h.2 (by decide) (by decide) hb)
      | (rename_i hy; simp only [Prod.mk.injEq, Option.some.injEq] at h; rw [← h.2]; exact thingTh_bad ha hy)
      | (simp at h; done)
theorem itemsL_bad {L : List Mk} {at0 : Nat} (ha : at0 < L.length) : ∀ (n : Nat) (c : Cls) (i : Nat) (fst : Bool) (f : Nat × Nat), itemsL L at0 n c i fst = .error f → 30 ≤ f.1 ∧ f.1 ≤ 32 ∧ f.2 < L.length
  | 0, _, _, _, _, h => by simp only [itemsL, Except.error.injEq] at h; exact f3 h (by decide) (by decide) ha
  | n + 1, c, i, fst, f, h => by
    unfold itemsL at h
    split at h
    · cases h
    · split at h
      · rename_i hx
        cases h
        exact itemTh_bad ha hx
      · exact itemsL_bad ha n _ _ _ _ h
theorem brackL_bad {L : List Mk} {s : Rst} {e i : Nat} (ha : s.i < L.length) (h : brackL L s = .no e i) : Bad L e i := by
  unfold brackL at h
  split at h
  · rename_i hx
    cases h
    unfold bracketL at hx
    simp only at hx
    split at hx
    · rename_i hy
      cases hx
      have := itemsL_bad ha _ _ _ _ _ hy
      simp only at this
      exact ⟨by omega, by omega, fun _ => by omega⟩
    · cases hx
  · cases h
theorem escapeL_bad {ere : Bool} {L : List Mk} {grp : Rst → Out (List Nd)} {s : Rst} {e i : Nat} (hs : s.i < L.length) (hg : s.i + wideB ere ≤ L.length → grp s = .no e i → Bad L e i) (h : escapeL ere L grp s = .no e i) : Bad L e i := by
  unfold escapeL at h
  split at h
  · cases h; exact Bad.mk' (by decide) hs
  · rename_i hne
    split at h
    · cases h; exact Bad.mk' (by decide) hs
    · simp only at h
      split at h
      · rename_i he
        have hw : wideB ere = 2 := by cases ere <;> simp_all [wideB]
        unfold withTrue at h
        split at h
        · cases h
        · rename_i hx; cases h; exact hg (by omega) hx
      · split at h
        · cases h
        · split at h
          · cases h
          · split at h
            · split at h
              · cases h; exact Bad.mk' (by decide) hs
              · split at h
                · cases h; exact Bad.mk' (by decide) hs
                · cases h
            · cases h; exact Bad.mk' (by decide) hs
theorem atomL_bad {ere first : Bool} {L : List Mk} {grp : Rst → Out (List Nd)} {s : Rst} {e i : Nat} (hs : s.i < L.length) (hg : s.i + wideB ere ≤ L.length → grp s = .no e i → Bad L e i) (h : atomL ere first L grp s = .no e i) : Bad L e i := by
  unfold atomL at h
  simp only at h
  split at h
  · cases h
  · split at h
    · unfold anyL at h; cases h
    · split at h
      · exact brackL_bad hs h
      · split at h
        · exact escapeL_bad hs hg h
        · split at h
          · unfold beginL at h; split at h <;> cases h
          · split at h
            · unfold endL at h; split at h <;> cases h
            · split at h
              · rename_i he
                have hw : wideB ere = 1 := by cases ere <;> simp_all [wideB]
                unfold withTrue at h
                split at h
                · cases h
                · rename_i hx; cases h; exact hg (by omega) hx
              · cases h
theorem intervalL_no {ere : Bool} {L : List Mk} {s : Rst} {e i : Nat} (h : intervalL ere L s = .no e i) : e = 43 ∧ i = s.i := by
  unfold intervalL at h
  obtain ⟨b, hb⟩ : ∃ b, b = (if seesAt L (numL L (s.i + wideB ere)).2 [44] then numL L ((numL L (s.i + wideB ere)).2 + 1) else numL L (s.i + wideB ere)) := ⟨_, rfl⟩
  simp only [← hb] at h
  split at h
  · cases h; exact ⟨rfl, rfl⟩
  · cases h
theorem dupL_bad {ere : Bool} {L : List Mk} {s : Rst} {e i : Nat} (hs : s.i ≤ L.length) (h : dupL ere L s = .no e i) : Bad L e i := by
  unfold dupL at h
  repeat' (split at h)
  all_goals first
    | (cases h; done)
    | (rename_i hx
       cases h
       obtain ⟨rfl, rfl⟩ := intervalL_no hx
       exact ⟨by decide, hs, fun h => by omega⟩)
theorem rowL_bad {ere top : Bool} {L : List Mk} {grp : Rst → Out (List Nd)} (hu : ∀ i, i < L.length → (markAt L i).b < 256) (hg : ∀ s re t, s.i + wideB ere ≤ L.length → grp s = .ok re t → Adv L s t) (hn : ∀ s e i, s.i + wideB ere ≤ L.length → grp s = .no e i → Bad L e i) :
    ∀ (f : Nat) (all : List Nd) (n : Nat) (lead : Bool) (s : Rst) (e i : Nat), L.length < f + s.i → rowL ere top L grp f all n lead s = .no e i → s.i ≤ L.length → Bad L e i
  | 0, _, _, _, s, _, _, hf, _, hs => by omega
  | f + 1, all, n, lead, s, e, i, hf, h, hs => by
    unfold rowL at h
    split at h
    · cases h
    · rename_i hlt
      split at h
      · cases h
      · split at h
        · split at h
          · cases h; exact Bad.mk' (by decide) (by omega)
          · cases h
        · split at h
          · cases h; exact Bad.mk' (by decide) (by omega)
          · split at h
            · rename_i hx
              cases h
              exact atomL_bad (by omega) (fun hw => hn s _ _ hw) hx
            · rename_i re takes u hx
              have h1 := atomL_adv hu (by omega) (fun re t => hg s re t) hx
              have h1l := h1.lt
              have h1e := h1.le
              simp only at h
              split at h
              · rename_i hr
                simp only [Bool.and_eq_true] at hr
                split at h
                · rename_i hd
                  cases h
                  exact dupL_bad h1e hd
                · rename_i d v hd
                  have h2 := dupL_adv hr.2 hd
                  have h2l := h2.lt
                  have h2e := h2.le
                  exact rowL_bad hu hg hn f _ _ _ _ _ _ (by omega) h h2e
              · exact rowL_bad hu hg hn f _ _ _ _ _ _ (by omega) h h1e
theorem sidesL_bad {ere : Bool} {L : List Mk} {row : Rst → Out (Nat × List Nd)} (hr : ∀ s r t, s.i ≤ L.length → row s = .ok r t → Rise L s t) (hn : ∀ s e i, s.i ≤ L.length → row s = .no e i → Bad L e i) :
    ∀ (f : Nat) (all : List Nd) (n : Nat) (s : Rst) (e i : Nat), L.length < f + s.i → s.i ≤ L.length → sidesL ere L row f all n s = .no e i → Bad L e i
  | 0, _, _, s, _, _, hf, hs, _ => by omega
  | f + 1, all, n, s, e, i, hf, hs, h => by
    unfold sidesL at h
    split at h
    · rename_i hx
      cases h
      exact hn _ _ _ hs hx
    · rename_i parts r u hx
      have h1 := hr _ _ _ hs hx
      have h1l := h1.lt
      have h1e := h1.le
      simp only at h
      split at h
      · cases h; exact ⟨by decide, h1e, fun h => by omega⟩
      · split at h
        · cases h
        · rename_i hm
          have hm' : (ere && seesAt L u.i [124]) = true := by simpa using hm
          simp only [Bool.and_eq_true] at hm'
          have h2 := seesAt_le (by simp) hm'.2
          simp only [List.length_singleton] at h2
          exact sidesL_bad hr hn f _ _ _ _ _ (by show L.length < f + (u.i + 1); omega) h2 h
theorem groupL_bad {ere : Bool} {L : List Mk} (hu : ∀ i, i < L.length → (markAt L i).b < 256) : ∀ (k : Nat) (s : Rst) (e i : Nat), s.i + wideB ere ≤ L.length → groupL ere L k s = .no e i → Bad L e i
  | 0, s, e, i, hs, h => by
    have hw := wideB_pos ere
    simp only [groupL, Out.no.injEq] at h
    rw [← h.1, ← h.2]
    exact Bad.mk' (by decide) (by omega)
  | k + 1, s, e, i, hs, h => by
    have hw := wideB_pos ere
    unfold groupL at h
    split at h
    · cases h; exact Bad.mk' (by decide) (by omega)
    · split at h
      · rename_i hx
        cases h
        exact sidesL_bad (fun _ _ _ h0 h => rowS_rise hu k h0 h) (fun s e i h0 h => rowL_bad hu (fun s re t => groupL_adv hu k s re t) (fun s e i => groupL_bad hu k s e i) _ _ _ _ s e i (by omega) h h0) _ _ _ _ _ _ (by omega) (by simpa using hs) hx
      · split at h
        · cases h; exact Bad.mk' (by decide) (by omega)
        · cases h
theorem sidesK_bad {ere : Bool} {L : List Mk} (hu : ∀ i, i < L.length → (markAt L i).b < 256) (k : Nat) {s : Rst} {e i : Nat} (hs : s.i ≤ L.length) (h : sidesK ere L k s = .no e i) : Bad L e i :=
  sidesL_bad (fun _ _ _ h0 h => rowS_rise hu k h0 h) (fun s e i h0 h => rowL_bad hu (fun s re t => groupL_adv hu k s re t) (fun s e i => groupL_bad hu k s e i) _ _ _ _ s e i (by omega) h h0) _ _ _ _ _ _ (by omega) hs h
/-- What Parse refuses. -/
theorem parseL_bad {ere : Bool} {L : List Mk} (hu : ∀ i, i < L.length → (markAt L i).b < 256) {e i : Nat} (h : parseL ere L = .error (e, i)) : Bad L e i := by
  unfold parseL at h
  split at h
  · cases h; exact ⟨by decide, by omega, fun h => by omega⟩
  · split at h
    · cases h; exact ⟨by decide, Nat.zero_le _, fun h => by omega⟩
    · split at h
      · rename_i hx
        cases h
        exact sidesK_bad hu 64 (by simp) hx
      · rename_i re t hx
        obtain ⟨wt, hwt⟩ := weighN_of_nodeN re _ _ _ _ _ _ (sidesK_top hx)
        rw [hwt] at h
        simp only at h
        split at h
        · cases h; exact ⟨by decide, Nat.le_refl _, fun h => by omega⟩
        · cases h
/-- What Parse answers otherwise. -/
theorem parseL_ok {ere : Bool} {L : List Mk} {re : List Nd} (h : parseL ere L = .ok re) : 0 < L.length ∧ L.length ≤ 4096 ∧ ∃ t w, sidesK ere L 64 ⟨0, []⟩ = .ok re t ∧ weighN re 260 0 = some (w, re.length) ∧ w ≤ 16384 := by
  unfold parseL at h
  split at h
  · cases h
  · split at h
    · cases h
    · split at h
      · cases h
      · rename_i re' t hx
        obtain ⟨wt, hwt⟩ := weighN_of_nodeN re' _ _ _ _ _ _ (sidesK_top hx)
        rw [hwt] at h
        simp only at h
        split at h
        · cases h
        · cases h
          exact ⟨by omega, by omega, t, wt, hx, hwt, by omega⟩
/-- What is read is well shaped. -/
theorem parseL_shaped {ere : Bool} {L : List Mk} {re : List Nd} (h : parseL ere L = .ok re) : shapedN re = true := by
  obtain ⟨_, _, t, w, h1, h2, h3⟩ := parseL_ok h
  rw [shapedN, sidesK_top h1]
  simp only [h2, decide_true, Bool.true_and]
  simpa using h3
end Go.Proofs.YtbdjcmhfcdamiaaGreatDoor

/- Plain laws of the reader: marks that stand in other marks are read there as they are. -/
namespace Go.Proofs.YtbdjcmhfcdamiaaGreatDoor

theorem seesAt_nil (L : List Mk) (p : Nat) : seesAt L p [] = true := by unfold seesAt; cases L.drop p <;> rfl
theorem seesAt_cons (L : List Mk) (p c : Nat) (s : List Nat) : seesAt L p (c :: s) = (decide (p < L.length) && (!(markAt L p).p && (markAt L p).b == c && seesAt L (p + 1) s)) := by
  by_cases h : p < L.length
  · rw [decide_eq_true h, Bool.true_and]
    unfold seesAt
    rw [List.drop_eq_getElem_cons h, seesL]
    simp [markAt, List.getD_eq_getElem?_getD, h]
  · rw [decide_eq_false h, Bool.false_and]
    unfold seesAt
    rw [List.drop_eq_nil_of_le (by omega)]
    rfl
/-- The marks of L stand in M from d on: the first n; up to the place q the reader sees the same. -/
structure Emb (ere : Bool) (L M : List Mk) (d n q : Nat) : Prop where
  qn : q ≤ n
  qs : q < n ∨ n = L.length
  nL : n ≤ L.length
  nM : d + n ≤ M.length
  eq : ∀ j, j < n → markAt M (d + j) = markAt L j
  rep : ∀ p, p ≤ q → repeatsL ere M (d + p) = repeatsL ere L p
  close : ∀ p, p ≤ q → p < L.length → seesAt M (d + p) (signB ere 41) = seesAt L p (signB ere 41)
  fin : ∀ p, p ≤ q → ere = false → (decide (d + p < M.length) && !seesAt M (d + p) [92, 41]) = (decide (p < L.length) && !seesAt L p [92, 41])
  term : q = L.length → M.length = d + q ∨ (ere && seesAt M (d + q) [124]) = true ∨ seesAt M (d + q) (signB ere 41) = true
section
variable {ere : Bool} {L M : List Mk} {d n q : Nat}
theorem seesAt_emb (nL : n ≤ L.length) (nM : d + n ≤ M.length) (eq : ∀ j, j < n → markAt M (d + j) = markAt L j) : ∀ (s : List Nat) (p : Nat), p + s.length ≤ n → seesAt M (d + p) s = seesAt L p s
  | [], p, _ => by rw [seesAt_nil, seesAt_nil]
  | c :: s, p, h => by
    simp only [List.length_cons] at h
    rw [seesAt_cons, seesAt_cons, eq p (by omega), decide_eq_true (show d + p < M.length by omega), decide_eq_true (show p < L.length by omega), Nat.add_assoc, seesAt_emb nL nM eq s (p + 1) (by omega)]
theorem Emb.sees (E : Emb ere L M d n q) {s : List Nat} {p : Nat} (h : p + s.length ≤ n) : seesAt M (d + p) s = seesAt L p s := seesAt_emb E.nL E.nM E.eq s p h
theorem Emb.lt (E : Emb ere L M d n q) {p : Nat} (h1 : p ≤ q) (h2 : p < L.length) : p < n := by have := E.qn; have := E.qs; omega
theorem Emb.sign (E : Emb ere L M d n q) {i : Nat} (c : Nat) (h : i < n) : signAt M (d + i) c = signAt L i c := by
  have := E.nL; have := E.nM
  unfold signAt
  rw [E.eq i h, decide_eq_true (show d + i < M.length by omega), decide_eq_true (show i < L.length by omega)]

/-! ### Brackets -/
theorem nameL_emb (E : Emb ere L M d n q) {at0 b at1 b1 : Nat} : ∀ (f i : Nat) (s : List Nat) (x : Th) (f' : Nat), nameL L at0 b f i s = (x, none) → x.next ≤ n → n ≤ f' + i → nameL M at1 b1 f' (d + i) s = (⟨x.set, x.b, x.fin, d + x.next⟩, none)
  | 0, _, _, _, _, h, _, _ => by simp [nameL] at h
  | f + 1, i, s, x, f', h, hx, hf => by
    have hn := (nameL_next _ _ _ _ h).1
    obtain ⟨g, rfl⟩ : ∃ g, f' = g + 1 := ⟨f' - 1, by omega⟩
    unfold nameL at h ⊢
    split at h
    · rename_i hc
      split at h
      · simp at h
      · rename_i c hcl
        simp only [Prod.mk.injEq, and_true] at h
        subst h
        simp only at hx
        rw [E.sign _ (by omega), Nat.add_assoc, E.sign _ (by omega), if_pos hc]
        simp only [Nat.add_assoc]
    · rename_i hc
      have hn2 := (nameL_next _ _ _ _ h).1
      rw [E.sign _ (by omega), Nat.add_assoc, E.sign _ (by omega), if_neg hc, E.eq i (by omega)]
      exact nameL_emb E f (i + 1) _ x g h hx (by omega)
theorem thingTh_emb (E : Emb ere L M d n q) (hu : ∀ i, i < L.length → (markAt L i).b < 256) {at0 b at1 : Nat} {x : Th} (h : thingTh L at0 b = (x, none)) (hx : x.next < n) : thingTh M at1 (d + b) = (⟨x.set, x.b, x.fin, d + x.next⟩, none) := by
  have hL := E.nL
  have hM := E.nM
  have hb := (thingTh_next h hu).1
  have e1 : decide (d + (b + 1) < M.length) = decide (b + 1 < L.length) := by rw [decide_eq_true (by omega), decide_eq_true (by omega)]
  unfold thingTh at h ⊢
  rw [if_neg (by omega)] at h
  rw [if_neg (by omega), Nat.add_assoc, e1, E.sign _ (by omega), E.eq (b + 1) (by omega), E.eq b (by omega)]
  split at h
  · rename_i hc
    rw [if_pos hc]
    unfold nameTh at h ⊢
    exact nameL_emb E _ (b + 2) _ _ _ h (by omega) (by omega)
  · rename_i hc
    rw [if_neg hc]
    split at h
    · rename_i hc2
      rw [if_pos hc2]
      unfold enclosedTh at h ⊢
      have h1 := h
      split at h1
      · simp at h1
      · split at h1
        · simp at h1
        · split at h1
          · simp at h1
          · split at h1
            · simp at h1
            · rename_i n1 n2 n3 n4
              simp only [Prod.mk.injEq, and_true] at h1
              subst h1
              simp only at hx
              rw [if_neg (by omega), Nat.add_assoc, E.sign _ (by omega), if_neg n2, if_neg (by omega), Nat.add_assoc, E.sign _ (by omega), if_neg n4, Nat.add_assoc, E.eq (b + 2) (by omega)]
              simp only [Nat.add_assoc]
    · rename_i hc2
      rw [if_neg hc2]
      simp only [Prod.mk.injEq, and_true] at h
      subst h
      simp only
theorem itemTh_emb (E : Emb ere L M d n q) (hu : ∀ i, i < L.length → (markAt L i).b < 256) {at0 b at1 : Nat} {fst : Bool} {x : Th} (h : itemTh L at0 b fst = (x, none)) (hx : x.next < n) (hx1 : signAt L x.next 45 = true → x.next + 1 < n) : itemTh M at1 (d + b) fst = (⟨x.set, x.b, x.fin, d + x.next⟩, none) := by
  have hL := E.nL
  have hM := E.nM
  unfold itemTh at h ⊢
  cases ha : thingTh L at0 b with
  | mk a o =>
    rw [ha] at h
    cases o with
    | some f => simp at h
    | none =>
      simp only at h
      obtain ⟨hab, haL, _⟩ := thingTh_next ha hu
      split at h
      · split at h <;> simp at h
      · rename_i c1
        split at h
        · rename_i c2
          simp only [Prod.mk.injEq, and_true] at h
          subst h
          rw [thingTh_emb E hu ha hx]
          simp only
          rw [E.sign _ (by omega), Nat.add_assoc, E.sign _ (by omega), if_neg c1, E.sign _ hx]
          cases h45 : signAt L a.next 45 with
          | false => simp
          | true =>
            have := hx1 h45
            rw [Nat.add_assoc, E.sign _ this, show decide (M.length ≤ d + (a.next + 1)) = decide (L.length ≤ a.next + 1) by rw [decide_eq_false (by omega), decide_eq_false (by omega)]]
            rw [h45] at c2
            rw [if_pos c2]
        · rename_i c2
          split at h
          · simp at h
          · rename_i c3
            cases hb2 : thingTh L at0 (a.next + 1) with
            | mk y o2 =>
              rw [hb2] at h
              cases o2 with
              | some f => simp at h
              | none =>
                simp only at h
                obtain ⟨hyb, hyL, _⟩ := thingTh_next hb2 hu
                split at h
                · simp at h
                · rename_i c4
                  simp only [Prod.mk.injEq, and_true] at h
                  subst h
                  simp only at hx hx1
                  rw [thingTh_emb E hu ha (by omega)]
                  simp only
                  rw [E.sign _ (by omega), Nat.add_assoc, E.sign _ (by omega), if_neg c1, E.sign _ (by omega), Nat.add_assoc, E.sign _ (by omega),
                    show decide (M.length ≤ d + (a.next + 1)) = decide (L.length ≤ a.next + 1) by rw [decide_eq_false (by omega), decide_eq_false (by omega)], if_neg c2, if_neg c3, thingTh_emb E hu hb2 hx]
                  simp only
                  rw [if_neg c4]
theorem itemsL_close {L : List Mk} {at0 : Nat} : ∀ (f : Nat) (c : Cls) (i : Nat) (fst : Bool) (r : Cls × Nat), itemsL L at0 f c i fst = .ok r → signAt L r.2 93 = true
  | 0, _, _, _, _, h => by simp [itemsL] at h
  | f + 1, c, i, fst, r, h => by
    unfold itemsL at h
    split at h
    · rename_i hc
      cases h
      simp only [Bool.and_eq_true] at hc
      exact hc.2
    · split at h
      · cases h
      · exact itemsL_close f _ _ _ _ h
theorem sign_both {L : List Mk} {i : Nat} (h1 : signAt L i 93 = true) (h2 : signAt L i 45 = true) : False := by
  simp only [signAt, Bool.and_eq_true, beq_iff_eq] at h1 h2
  omega
theorem itemsL_emb (E : Emb ere L M d n q) (hu : ∀ i, i < L.length → (markAt L i).b < 256) {at0 at1 : Nat} : ∀ (f : Nat) (c : Cls) (i : Nat) (fst : Bool) (r : Cls × Nat) (f' : Nat), itemsL L at0 f c i fst = .ok r → r.2 < n → n < f' + i → itemsL M at1 f' c (d + i) fst = .ok (r.1, d + r.2)
  | 0, _, _, _, _, _, h, _, _ => by simp [itemsL] at h
  | f + 1, c, i, fst, r, f', h, hr, hf => by
    have hi := (itemsL_next hu _ _ _ _ _ h).1
    obtain ⟨g, rfl⟩ : ∃ g, f' = g + 1 := ⟨f' - 1, by omega⟩
    unfold itemsL at h ⊢
    rw [E.sign _ (by omega)]
    split at h
    · rename_i hc
      cases h
      rw [if_pos hc]
    · rename_i hc
      rw [if_neg hc]
      cases hx : itemTh L at0 i fst with
      | mk x o =>
        rw [hx] at h
        cases o with
        | some e => cases h
        | none =>
          simp only at h
          have h1 := itemTh_next hx hu
          have h2 := itemsL_next hu _ _ _ _ _ h
          rw [itemTh_emb E hu (at1 := at1) hx (by omega) (fun h45 => by
            have h3 := itemsL_close _ _ _ _ _ h
            by_cases he : x.next = r.2
            · rw [← he] at h3; exact (sign_both h3 h45).elim
            · omega)]
          simp only
          exact itemsL_emb E hu f _ _ _ _ g h hr (by omega)
theorem bracketL_emb (E : Emb ere L M d n q) (hu : ∀ i, i < L.length → (markAt L i).b < 256) {at0 : Nat} {r : Cls × Nat} (h : bracketL L at0 = .ok r) (hr : r.2 ≤ n) : bracketL M (d + at0) = .ok (r.1, d + r.2) := by
  have hL := E.nL
  have hM := E.nM
  unfold bracketL at h ⊢
  simp only at h ⊢
  split at h
  · cases h
  · rename_i c i hx
    have h1 := itemsL_next hu _ _ _ _ _ hx
    cases h
    simp only at hr h1 ⊢
    have hp : at0 + 1 < n := by split at h1 <;> omega
    rw [Nat.add_assoc, E.sign _ hp]
    have hx' := itemsL_emb E hu (at1 := d + at0) _ _ _ _ _ (M.length + 2) hx (by show i < n; omega) (by split <;> omega)
    have he : (if signAt L (at0 + 1) 94 = true then d + at0 + 2 else d + (at0 + 1)) = d + (if signAt L (at0 + 1) 94 = true then at0 + 2 else at0 + 1) := by split <;> omega
    rw [he, hx']
    rfl

/-! ### Numbers -/
theorem numberL_emb (E : Emb ere L M d n q) : ∀ (f : Nat) (v : Int) (i f' : Nat) (r : Int × Nat), L.length ≤ f + i → M.length ≤ f' + (d + i) → i ≤ L.length → numberL L f v i = r → r.2 < n → numberL M f' v (d + i) = (r.1, d + r.2)
  | 0, v, i, f', r, h1, h2, hi, h, h3 => by
    have := E.nL
    simp only [numberL] at h
    subst h
    simp only at h3
    omega
  | f + 1, v, i, f', r, h1, h2, hiL, h, h3 => by
    have hL := E.nL
    have hM := E.nM
    have hle := numberL_le L (f + 1) v i hiL
    rw [h] at hle
    obtain ⟨g, rfl⟩ : ∃ g, f' = g + 1 := ⟨f' - 1, by omega⟩
    unfold numberL at h ⊢
    rw [if_neg (by omega)] at h
    rw [if_neg (by omega), E.eq i (by omega)]
    split at h
    · rename_i hc
      rw [if_pos hc]
      subst h
      rfl
    · rename_i hc
      rw [if_neg hc]
      exact numberL_emb E f _ (i + 1) g r (by omega) (by omega) (by omega) h h3
theorem numL_emb (E : Emb ere L M d n q) {i : Nat} (hi : i ≤ L.length) (h : (numL L i).2 < n) : numL M (d + i) = ((numL L i).1, d + (numL L i).2) := by
  have hL := E.nL
  have hM := E.nM
  exact numberL_emb E _ _ _ _ _ (by omega) (by omega) hi rfl h
def intB (L : List Mk) (a : Int × Nat) : Int × Nat := if seesAt L a.2 [44] then numL L (a.2 + 1) else a
def intF (ere : Bool) (L : List Mk) (s : Rst) (a b : Int × Nat) : Out (Int × Int) :=
  if decide (a.1 < 0) || decide (255 < a.1) || decide (255 < b.1) || (decide (0 ≤ b.1) && decide (b.1 < a.1)) || !seesAt L b.2 (signB ere 125) then .no 43 s.i
  else .ok (a.1, b.1) ⟨b.2 + wideB ere, s.ended⟩
theorem intervalL_def (ere : Bool) (L : List Mk) (s : Rst) : intervalL ere L s = intF ere L s (numL L (s.i + wideB ere)) (intB L (numL L (s.i + wideB ere))) := rfl
theorem intB_le {L : List Mk} {a : Int × Nat} (h : a.2 ≤ L.length) : a.2 ≤ (intB L a).2 ∧ (intB L a).2 ≤ L.length := by
  unfold intB
  split
  · rename_i h4
    have h5 := seesAt_le (by simp) h4
    simp only [List.length_singleton] at h5
    have h6 := numberL_le L (L.length - (a.2 + 1)) (-1) (a.2 + 1) h5
    change (a.2 + 1 ≤ (numL L (a.2 + 1)).2 ∧ (numL L (a.2 + 1)).2 ≤ _) at h6
    omega
  · exact ⟨Nat.le_refl _, h⟩
theorem intB_emb (E : Emb ere L M d n q) {a : Int × Nat} (ha : a.2 ≤ L.length) (h : (intB L a).2 < n) : intB M (a.1, d + a.2) = ((intB L a).1, d + (intB L a).2) := by
  have h1 := intB_le ha
  have h2 : seesAt M (d + a.2) [44] = seesAt L a.2 [44] := E.sees (by simp only [List.length_singleton]; omega)
  unfold intB at h ⊢
  simp only
  rw [h2]
  split at h
  · rename_i h4
    have h5 := seesAt_le (by simp) h4
    simp only [List.length_singleton] at h5
    rw [if_pos h4, Nat.add_assoc, numL_emb E h5 h]
    rw [if_pos h4]
  · rename_i h4
    rw [if_neg h4, if_neg h4]
theorem intervalL_emb (E : Emb ere L M d n q) {s t : Rst} {r : Int × Int} (en : List Bool) (hs : s.i + wideB ere ≤ L.length) (h : intervalL ere L s = .ok r t) (ht : t.i ≤ q) : intervalL ere M ⟨d + s.i, en⟩ = .ok r ⟨d + t.i, en⟩ := by
  have hw := wideB_pos ere
  have hqn := E.qn
  rw [intervalL_def] at h ⊢
  have h1 := numberL_le L (L.length - (s.i + wideB ere)) (-1) (s.i + wideB ere) hs
  change (s.i + wideB ere ≤ (numL L (s.i + wideB ere)).2 ∧ (numL L (s.i + wideB ere)).2 ≤ L.length) at h1
  have h2 := intB_le h1.2
  have hb : (intB L (numL L (s.i + wideB ere))).2 + wideB ere ≤ q := by
    unfold intF at h
    split at h
    · cases h
    · cases h; exact ht
  have e1 := numL_emb E hs (by omega)
  have e2 := intB_emb E h1.2 (by omega)
  simp only
  rw [Nat.add_assoc, e1, e2]
  generalize intB L (numL L (s.i + wideB ere)) = b at *
  generalize numL L (s.i + wideB ere) = a at *
  unfold intF at h ⊢
  simp only
  rw [E.sees (by rw [signB_length]; omega)]
  split at h
  · cases h
  · rename_i hc
    cases h
    rw [if_neg hc, Nat.add_assoc]
theorem dupL_emb (E : Emb ere L M d n q) {s t : Rst} {x : Nd} (en : List Bool) (hs : repeatsL ere L s.i = true) (h : dupL ere L s = .ok x t) (ht : t.i ≤ q) : dupL ere M ⟨d + s.i, en⟩ = .ok x ⟨d + t.i, en⟩ := by
  have hqn := E.qn
  have hlt := (dupL_adv hs h).lt
  unfold dupL at h ⊢
  simp only at h ⊢
  rw [E.sees (s := [42]) (by simp only [List.length_singleton]; omega), E.sees (s := [43]) (by simp only [List.length_singleton]; omega), E.sees (s := [63]) (by simp only [List.length_singleton]; omega)]
  split at h
  · rename_i c1; cases h; rw [if_pos c1, Nat.add_assoc]
  · rename_i c1
    rw [if_neg c1]
    split at h
    · rename_i c2; cases h; rw [if_pos c2, Nat.add_assoc]
    · rename_i c2
      rw [if_neg c2]
      split at h
      · rename_i c3; cases h; rw [if_pos c3, Nat.add_assoc]
      · rename_i c3
        rw [if_neg c3]
        have hb : seesAt L s.i (signB ere 123) = true := by
          unfold repeatsL at hs
          simp only [c1, c2, c3] at hs
          simpa using hs
        split at h
        · cases h
        · rename_i hi
          cases h
          rw [intervalL_emb E en (seesSign_le hb) hi ht]
end
end Go.Proofs.YtbdjcmhfcdamiaaGreatDoor

/- Plain laws of the reader: what stands in other marks is read there as the same tree, its groups numbered on; or a limit is passed, and then the tree is beyond it. -/
namespace Go.Proofs.YtbdjcmhfcdamiaaGreatDoor

/-- A node whose group is numbered on. -/
def sh (p : Nat) (x : Nd) : Nd := if x.op = 7 then { x with n := x.n + p } else x
theorem sh_op (p : Nat) (x : Nd) : (sh p x).op = x.op := by unfold sh; split <;> rfl
theorem sh_kids (p : Nat) (x : Nd) : (sh p x).kids = x.kids := by unfold sh; split <;> rfl
theorem sh_good (p : Nat) (x : Nd) : goodN (sh p x) = goodN x := by
  unfold sh
  split
  · rename_i h7
    unfold goodN
    simp only [h7]
    rfl
  · rfl
theorem sh_ne {p : Nat} {x : Nd} (h : x.op ≠ 7) : sh p x = x := if_neg h
theorem sh_one (p b : Nat) : sh p (oneN b) = oneN b := rfl
theorem sh_group (p m : Nat) : sh p (groupN m) = groupN (m + p) := by unfold sh groupN; simp
theorem sh_zero (x : Nd) : sh 0 x = x := by unfold sh; split <;> simp
theorem map_sh_zero (l : List Nd) : l.map (sh 0) = l := by
  rw [show (sh 0) = id from funext sh_zero, List.map_id]
theorem sh_head (p : Nat) (re : List Nd) : ((re.map (sh p)).getD 0 Nd.zero).op = (re.getD 0 Nd.zero).op := by
  cases re with
  | nil => rfl
  | cons x l => simp [sh_op]

/-- No tree of that kind stands there. -/
def NTr (g : Nat) (l : List Nd) (a : List Bool) : Prop := ∀ f pre post, nodeN (pre ++ l ++ post) f g pre.length a = none
def NTrs (g n : Nat) (l : List Nd) (a : List Bool) : Prop := ∀ f pre post, kidsN (nodeN (pre ++ l ++ post) f g) n pre.length a = none
theorem kidsN_none (g : Nat → List Bool → Option (Nat × List Bool)) : ∀ (m k i : Nat) (en : List Bool), kidsN g m i en = none → kidsN g (m + k) i en = none
  | 0, _, _, _, h => by simp [kidsN] at h
  | m + 1, k, i, en, h => by
    rw [show m + 1 + k = (m + k) + 1 by omega]
    unfold kidsN at h ⊢
    split at h
    · rfl
    · exact kidsN_none g m k _ _ h
theorem NTr.one {g : Nat} {l : List Nd} {a : List Bool} (h : NTr g l a) : NTrs g 1 l a := fun f pre post => by simp only [kidsN, h f pre post]
theorem NTrs.un {g : Nat} {l : List Nd} {a : List Bool} (h : NTrs g 1 l a) : NTr g l a := fun f pre post => by
  have := h f pre post
  unfold kidsN at this
  split at this
  · assumption
  · simp [kidsN] at this
theorem NTrs.more {g n : Nat} {l : List Nd} {a : List Bool} (h : NTrs g n l a) (m : Nat) (r : List Nd) : NTrs g (n + m) (l ++ r) a := fun f pre post => by
  have := h f pre (r ++ post)
  rw [show pre ++ (l ++ r) ++ post = pre ++ l ++ (r ++ post) by simp]
  exact kidsN_none _ _ _ _ _ this
theorem NTrs.after {F g n : Nat} {l r : List Nd} {a b : List Bool} (h : Trs F g n l a b) (hr : NTr g r b) : NTrs g (n + 1) (l ++ r) a := fun f pre post => by
  have h1 := h pre (r ++ post)
  have h2 := hr f (pre ++ l) post
  rw [show pre ++ l ++ (r ++ post) = pre ++ l ++ r ++ post by simp] at h1
  rw [show pre ++ (l ++ r) ++ post = pre ++ l ++ r ++ post by simp]
  cases hk : kidsN (nodeN (pre ++ l ++ r ++ post) f g) n pre.length a with
  | none => exact kidsN_none _ _ _ _ _ hk
  | some q =>
    have h3 := kidsN_mono (fun i en r => nodeN_mono _ (g := g) (i := i) (en := en) (r := r) (Nat.le_max_left f F)) _ _ _ _ hk
    have h4 := kidsN_mono (fun i en r => nodeN_mono _ (g := g) (i := i) (en := en) (r := r) (Nat.le_max_right f F)) _ _ _ _ h1
    rw [h3] at h4
    obtain ⟨j, en⟩ := q
    simp only [Option.some.injEq, Prod.mk.injEq] at h4
    rw [kidsN_add _ n 1 _ _ _ _ hk, h4.1, h4.2]
    rw [List.length_append] at h2
    simp only [kidsN, h2]
theorem NTr.node {g : Nat} {x : Nd} {l : List Nd} {a : List Bool} (h7 : x.op ≠ 7) (h : NTrs g x.kids.toNat l a) : NTr g (x :: l) a := fun f pre post => by
  cases f with
  | zero => rfl
  | succ f =>
    have h1 := h f (pre ++ [x]) post
    rw [show pre ++ [x] ++ l ++ post = pre ++ (x :: l) ++ post by simp, show (pre ++ [x]).length = pre.length + 1 by simp] at h1
    rw [nodeN, get_mid]
    simp only
    split
    · rfl
    · split
      · rfl
      · first | exact h1 | (rw [if_neg h7]; exact h1)
theorem NTr.group {g m : Nat} {l : List Nd} {a : List Bool} (h : NTr (g + 1) l (a ++ [false])) : NTr g (groupN m :: l) a := fun f pre post => by
  cases f with
  | zero => rfl
  | succ f =>
    have h1 := h.one f (pre ++ [groupN m]) post
    rw [show pre ++ [groupN m] ++ l ++ post = pre ++ (groupN m :: l) ++ post by simp, show (pre ++ [groupN m]).length = pre.length + 1 by simp] at h1
    rw [nodeN, get_mid]
    simp only
    split
    · rfl
    · split
      · rfl
      · rw [if_pos (by rfl)]
        split
        · rfl
        · rw [show (groupN m).kids.toNat = 1 from rfl, h1]
theorem NTr.far {g m : Nat} {l : List Nd} {a : List Bool} (h : 64 ≤ g ∨ 255 < m) : NTr g (groupN m :: l) a := fun f pre post => by
  cases f with
  | zero => rfl
  | succ f =>
    rw [nodeN, get_mid]
    simp only
    split
    · rfl
    · split
      · rfl
      · rw [if_pos (by rfl), if_pos (by rcases h with h | h; exact .inr (.inr h); exact .inr (.inl (by show (255 : Int) < (m : Int); omega)))]

theorem groupL_adv2 {ere : Bool} {L : List Mk} (hu : ∀ i, i < L.length → (markAt L i).b < 256) (k : Nat) {s : Rst} {re : List Nd} {t : Rst} (hs : s.i + wideB ere ≤ L.length) (h : groupL ere L k s = .ok re t) : s.i + 2 * wideB ere ≤ t.i := by
  cases k with
  | zero => simp [groupL] at h
  | succ k =>
    unfold groupL at h
    split at h
    · cases h
    · split at h
      · cases h
      · rename_i r u hx
        have h1 := sidesL_rise (fun s r t h0 h => rowS_rise hu k h0 h) _ _ _ _ _ _ (by simpa using hs) hx
        split at h
        · cases h
        · cases h
          have := h1.lt
          simp only at this ⊢
          omega

section
variable {ere : Bool} {L M : List Mk} {d n q p g : Nat} {pre : List Bool} {X : Prop}
/-- A limit was passed. -/
def Lim {α : Type} (X : Prop) (o : Out α) : Prop := X ∧ ∃ e j, o = .no e j ∧ (e = 46 ∨ e = 47)
def NR (p : Nat) (re : List Nd) : Prop := 0 < p → ∀ x ∈ re, x.op ≠ 8
theorem NR.left {p : Nat} {a b : List Nd} (h : NR p (a ++ b)) : NR p a := fun hp x hx => h hp x (List.mem_append_left _ hx)
theorem NR.right {p : Nat} {a b : List Nd} (h : NR p (a ++ b)) : NR p b := fun hp x hx => h hp x (List.mem_append_right _ hx)
theorem NR.tail {p : Nat} {x : Nd} {b : List Nd} (h : NR p (x :: b)) : NR p b := fun hp x hx => h hp x (List.mem_cons_of_mem _ hx)

def EmbG (X : Prop) (d p g : Nat) (pre : List Bool) (s : Rst) (o : Out (List Nd)) (re : List Nd) (t : Rst) : Prop :=
  o = .ok (re.map (sh p)) ⟨d + t.i, pre ++ t.ended⟩ ∨ (Lim X o ∧ NTr g (re.map (sh p)) (pre ++ s.ended))
def EmbA (X : Prop) (d p g : Nat) (pre : List Bool) (s : Rst) (o : Out (List Nd × Bool)) (r : List Nd × Bool) (t : Rst) : Prop :=
  o = .ok (r.1.map (sh p), r.2) ⟨d + t.i, pre ++ t.ended⟩ ∨ (Lim X o ∧ NTr g (r.1.map (sh p)) (pre ++ s.ended))
theorem EmbG.withTrue {s : Rst} {o : Out (List Nd)} {re : List Nd} {t : Rst} (h : EmbG X d p g pre s o re t) : EmbA X d p g pre s (withTrue o) (re, true) t := by
  rcases h with h | ⟨⟨hX, e, j, h, he⟩, hn⟩
  · subst h; exact .inl rfl
  · subst h; exact .inr ⟨⟨hX, e, j, rfl, he⟩, hn⟩
theorem escapeL_emb (E : Emb ere L M d n q) (hp : pre.length = p) {grp grp' : Rst → Out (List Nd)} {s : Rst} {r : List Nd × Bool} {t : Rst}
    (HG : ∀ re t, s.i + wideB ere ≤ L.length → grp s = .ok re t → t.i ≤ q → NR p re → EmbG X d p g pre s (grp' ⟨d + s.i, pre ++ s.ended⟩) re t)
    (HW : ∀ re t, s.i + wideB ere ≤ L.length → grp s = .ok re t → s.i + 2 * wideB ere ≤ t.i)
    (hs : s.i < L.length) (h : escapeL ere L grp s = .ok r t) (ht : t.i ≤ q) (hn : NR p r.1) : EmbA X d p g pre s (escapeL ere M grp' ⟨d + s.i, pre ++ s.ended⟩) r t := by
  have hqn := E.qn
  have hL := E.nL
  have hM := E.nM
  unfold escapeL at h ⊢
  simp only at h ⊢
  split at h
  · cases h
  · rename_i h1
    split at h
    · cases h
    · rename_i h2
      by_cases he : (!ere && (markAt L (s.i + 1)).b == 40) = true
      · rw [if_pos he] at h
        have hw : wideB ere = 2 := by cases ere <;> simp_all [wideB]
        have h3 := h
        unfold withTrue at h3
        split at h3
        · rename_i re u hx
          cases h3
          have hsw : s.i + wideB ere ≤ L.length := by omega
          have h4 := HW _ _ hsw hx
          have h5 := HG _ _ hsw hx ht hn
          rw [if_neg (by omega), Nat.add_assoc, E.eq (s.i + 1) (by omega), if_neg h2, if_pos he]
          exact h5.withTrue
        · cases h3
      · rw [if_neg he] at h
        have ht2 : t = ⟨s.i + 2, s.ended⟩ ∧ ∃ x, r = ([x], true) := by
          repeat' (split at h)
          all_goals first
            | (cases h; exact ⟨rfl, _, rfl⟩)
            | (cases h; done)
        have hsn : s.i + 1 < n := by rw [ht2.1] at ht; simp only at ht; omega
        rw [if_neg (by omega), Nat.add_assoc, E.eq (s.i + 1) hsn, if_neg h2, if_neg he]
        split at h
        · rename_i c1
          cases h
          rw [if_pos c1]
          exact .inl (by simp only [List.map_cons, List.map_nil, sh_one, Nat.add_assoc])
        · rename_i c1
          rw [if_neg c1]
          split at h
          · rename_i c2
            cases h
            rw [if_pos c2]
            exact .inl (by simp only [List.map_cons, List.map_nil, sh_one, Nat.add_assoc])
          · rename_i c2
            rw [if_neg c2]
            split at h
            · rename_i c3
              rw [if_pos c3]
              split at h
              · cases h
              · rename_i c4
                split at h
                · cases h
                · rename_i c5
                  cases h
                  have hp0 : p = 0 := by
                    by_cases h0 : 0 < p
                    · exact absurd rfl (hn h0 (refN ((markAt L (s.i + 1)).b - 48)) (List.mem_singleton.2 rfl))
                    · omega
                  subst hp0
                  have hpre : pre = [] := List.eq_nil_of_length_eq_zero hp
                  subst hpre
                  rw [List.nil_append, if_neg c4, if_neg c5]
                  exact .inl (by simp only [List.map_cons, List.map_nil, sh_zero, Nat.add_assoc, List.nil_append])
            · cases h
theorem atomL_emb (E : Emb ere L M d n q) (hu : ∀ i, i < L.length → (markAt L i).b < 256) (hp : pre.length = p) {first : Bool} {grp grp' : Rst → Out (List Nd)} {s : Rst} {r : List Nd × Bool} {t : Rst}
    (HG : ∀ re t, s.i + wideB ere ≤ L.length → grp s = .ok re t → t.i ≤ q → NR p re → EmbG X d p g pre s (grp' ⟨d + s.i, pre ++ s.ended⟩) re t)
    (HW : ∀ re t, s.i + wideB ere ≤ L.length → grp s = .ok re t → s.i + 2 * wideB ere ≤ t.i)
    (hs : s.i < L.length) (hlt : s.i < t.i) (h : atomL ere first L grp s = .ok r t) (ht : t.i ≤ q) (hn : NR p r.1) : EmbA X d p g pre s (atomL ere first M grp' ⟨d + s.i, pre ++ s.ended⟩) r t := by
  have hqn := E.qn
  unfold atomL at h ⊢
  simp only at h ⊢
  rw [E.eq s.i (by omega)]
  split at h
  · rename_i c0
    cases h
    rw [if_pos c0]
    exact .inl (by simp only [List.map_cons, List.map_nil, sh_one, Nat.add_assoc])
  · rename_i c0
    rw [if_neg c0]
    split at h
    · rename_i c1
      rw [if_pos c1]
      unfold anyL at h ⊢
      cases h
      exact .inl (by simp only [List.map_cons, List.map_nil, Nat.add_assoc]; rfl)
    · rename_i c1
      rw [if_neg c1]
      split at h
      · rename_i c2
        rw [if_pos c2]
        unfold brackL at h ⊢
        simp only
        split at h
        · cases h
        · rename_i c i hx
          cases h
          simp only at ht
          rw [bracketL_emb E hu hx (by show i ≤ n; omega)]
          exact .inl rfl
      · rename_i c2
        rw [if_neg c2]
        split at h
        · rename_i c3
          rw [if_pos c3]
          exact escapeL_emb E hp HG HW hs h ht hn
        · rename_i c3
          rw [if_neg c3]
          split at h
          · rename_i c4
            rw [if_pos c4]
            unfold beginL at h ⊢
            split at h
            · rename_i c5; cases h; rw [if_pos c5]; exact .inl (by simp only [List.map_cons, List.map_nil, sh_one, Nat.add_assoc])
            · rename_i c5; cases h; rw [if_neg c5]; exact .inl (by simp only [List.map_cons, List.map_nil, Nat.add_assoc]; rfl)
          · rename_i c4
            rw [if_neg c4]
            split at h
            · rename_i c5
              rw [if_pos c5]
              have hti : s.i + 1 ≤ q := by omega
              have hf := E.fin (s.i + 1) hti
              have he : (!ere && decide (d + s.i + 1 < M.length) && !seesAt M (d + s.i + 1) [92, 41]) = (!ere && decide (s.i + 1 < L.length) && !seesAt L (s.i + 1) [92, 41]) := by
                cases ere with
                | true => rfl
                | false =>
                  have := hf rfl
                  rw [Nat.add_assoc, Bool.and_assoc, this, Bool.and_assoc]
              unfold endL at h ⊢
              simp only
              rw [he]
              split at h
              · rename_i c6; cases h; rw [if_pos c6]; exact .inl (by simp only [List.map_cons, List.map_nil, sh_one, Nat.add_assoc])
              · rename_i c6; cases h; rw [if_neg c6]; exact .inl (by simp only [List.map_cons, List.map_nil, Nat.add_assoc]; rfl)
            · rename_i c5
              rw [if_neg c5]
              split at h
              · rename_i c6
                rw [if_pos c6]
                have hw : wideB ere = 1 := by cases ere <;> simp_all [wideB]
                have h3 := h
                unfold withTrue at h3
                split at h3
                · rename_i re u hx
                  cases h3
                  exact (HG _ _ (by omega) hx ht hn).withTrue
                · cases h3
              · rename_i c6
                cases h
                rw [if_neg c6]
                exact .inl (by simp only [List.map_cons, List.map_nil, sh_one, Nat.add_assoc])
end
end Go.Proofs.YtbdjcmhfcdamiaaGreatDoor

/- Plain laws of the reader: rows, sides and groups that stand in other marks. -/
namespace Go.Proofs.YtbdjcmhfcdamiaaGreatDoor

/-- A row's answer begins with what was there. -/
theorem rowL_pre {ere top : Bool} {L : List Mk} {grp : Rst → Out (List Nd)} : ∀ (f : Nat) (all : List Nd) (n : Nat) (lead : Bool) (s : Rst) (r : Nat × List Nd) (t : Rst), rowL ere top L grp f all n lead s = .ok r t → ∃ m l, r = (n + m, all ++ l)
  | 0, _, _, _, _, _, _, h => by simp [rowL] at h
  | f + 1, all, n, lead, s, r, t, h => by
    unfold rowL at h
    split at h
    · cases h; exact ⟨0, [], by simp⟩
    · split at h
      · cases h; exact ⟨0, [], by simp⟩
      · split at h
        · split at h
          · cases h
          · cases h; exact ⟨0, [], by simp⟩
        · split at h
          · cases h
          · split at h
            · cases h
            · rename_i re takes u hx
              simp only at h
              split at h
              · split at h
                · cases h
                · rename_i x v hd
                  obtain ⟨m, l, rfl⟩ := rowL_pre f _ _ _ _ _ _ h
                  exact ⟨m + 1, x :: re ++ l, by simp; omega⟩
              · obtain ⟨m, l, rfl⟩ := rowL_pre f _ _ _ _ _ _ h
                exact ⟨m + 1, re ++ l, by simp; omega⟩
theorem sidesL_pre {ere : Bool} {L : List Mk} {row : Rst → Out (Nat × List Nd)} : ∀ (f : Nat) (all : List Nd) (n : Nat) (s : Rst) (re : List Nd) (t : Rst), sidesL ere L row f all n s = .ok re t → ∃ m l, re = (if 1 < n + 1 + m then altN (n + 1 + m) :: (all ++ l) else all ++ l)
  | 0, _, _, _, _, _, h => by simp [sidesL] at h
  | f + 1, all, n, s, re, t, h => by
    unfold sidesL at h
    split at h
    · cases h
    · rename_i parts r u hx
      simp only at h
      split at h
      · cases h
      · split at h
        · cases h
          exact ⟨0, _, rfl⟩
        · obtain ⟨m, l, rfl⟩ := sidesL_pre f _ _ _ _ _ h
          exact ⟨m + 1, (if parts = 1 then r else catN parts :: r) ++ l, by rw [show n + 1 + (m + 1) = n + 1 + 1 + m by omega]; simp only [List.append_assoc]⟩
section
variable {ere : Bool} {L M : List Mk} {d n q p g : Nat} {pre : List Bool} {X : Prop}
theorem rowL_emb (E : Emb ere L M d n q) (hu : ∀ i, i < L.length → (markAt L i).b < 256) (hp : pre.length = p) {top top' : Bool} {grp grp' : Rst → Out (List Nd)} {F : Nat} {a0 : List Bool}
    (htop : top = false → top' = false) (hcl : q = L.length → seesAt M (d + q) (signB ere 41) = true → top' = false)
    (hgA : ∀ s re t, s.i + wideB ere ≤ L.length → grp s = .ok re t → Adv L s t)
    (HG : ∀ s re t, (pre ++ s.ended).length ≤ 255 → s.i + wideB ere ≤ L.length → grp s = .ok re t → t.i ≤ q → NR p re → EmbG X d p g pre s (grp' ⟨d + s.i, pre ++ s.ended⟩) re t)
    (HW : ∀ s re t, s.i + wideB ere ≤ L.length → grp s = .ok re t → s.i + 2 * wideB ere ≤ t.i)
    (HT : ∀ s re t, s.ended.length ≤ 255 → grp' s = .ok re t → Tr (F + 1) g re s.ended t.ended ∧ t.ended.length ≤ 255) :
    ∀ (f : Nat) (all : List Nd) (m : Nat) (lead : Bool) (s : Rst) (r : Nat × List Nd) (t : Rst) (f' : Nat), rowL ere top L grp f all m lead s = .ok r t → s.i ≤ L.length → t.i ≤ q → NR p r.2 → M.length < f' + (d + s.i) → (pre ++ s.ended).length ≤ 255 → Trs (F + 2) g m (all.map (sh p)) a0 (pre ++ s.ended) →
      rowL ere top' M grp' f' (all.map (sh p)) m lead ⟨d + s.i, pre ++ s.ended⟩ = .ok (r.1, r.2.map (sh p)) ⟨d + t.i, pre ++ t.ended⟩ ∨ (Lim X (rowL ere top' M grp' f' (all.map (sh p)) m lead ⟨d + s.i, pre ++ s.ended⟩) ∧ NTrs g r.1 (r.2.map (sh p)) a0)
  | 0, _, _, _, _, _, _, _, h, _, _, _, _, _, _ => by simp [rowL] at h
  | f + 1, all, m, lead, s, r, t, f', h, hsL, ht, hn, hf, hl, htr => by
    have hqn := E.qn
    have hL := E.nL
    have hM := E.nM
    have hrise := (rowL_rise hu hgA _ _ _ _ _ _ _ hsL h).lt
    obtain ⟨f2, rfl⟩ : ∃ f2, f' = f2 + 1 := ⟨f' - 1, by omega⟩
    unfold rowL at h
    by_cases hend : L.length ≤ s.i
    · rw [if_pos hend] at h
      cases h
      have hsq : s.i = q := by omega
      have hqL : q = L.length := by omega
      refine .inl ?_
      unfold rowL
      simp only
      rcases E.term hqL with h1 | h1 | h1
      · rw [if_pos (by omega)]
      · rw [hsq]
        by_cases h2 : M.length ≤ d + q
        · rw [if_pos h2]
        · rw [if_neg h2, if_pos h1]
      · rw [hsq]
        by_cases h2 : M.length ≤ d + q
        · rw [if_pos h2]
        · rw [if_neg h2]
          split
          · rfl
          · rw [hcl hqL h1]
            rfl
    · rw [if_neg hend] at h
      have hsl : s.i < L.length := by omega
      have hsn : s.i < n := E.lt (by omega) hsl
      have hone : ∀ c, seesAt M (d + s.i) [c] = seesAt L s.i [c] := fun c => E.sees (by simp only [List.length_singleton]; omega)
      unfold rowL
      simp only
      rw [if_neg (show ¬ M.length ≤ d + s.i by omega), hone, E.close _ (by omega) hsl, E.rep _ (by omega), hone]
      split at h
      · rename_i c1
        cases h
        rw [if_pos c1]
        exact .inl rfl
      · rename_i c1
        rw [if_neg c1]
        split at h
        · rename_i c2
          rw [if_pos c2]
          split at h
          · cases h
          · rename_i c3
            cases h
            rw [htop (by simpa using c3)]
            exact .inl rfl
        · rename_i c2
          rw [if_neg c2]
          split at h
          · cases h
          · rename_i c3
            rw [if_neg c3]
            split at h
            · cases h
            · rename_i re takes u hx
              have h1 := atomL_adv hu hsl (fun re t => hgA s re t) hx
              have h1l := h1.lt
              have h1e := h1.le
              simp only at h
              -- what the rest is
              by_cases hr : (takes && repeatsL ere L u.i) = true
              · rw [if_pos hr] at h
                simp only [Bool.and_eq_true] at hr
                split at h
                · cases h
                · rename_i x v hd
                  have h2 := dupL_adv hr.2 hd
                  have h2l := h2.lt
                  have h2e := h2.le
                  have h3 := (rowL_rise hu hgA _ _ _ _ _ _ _ h2e h).lt
                  obtain ⟨m2, l2, hr2⟩ := rowL_pre _ _ _ _ _ _ _ h
                  have hgd := dupL_good hd
                  have hx7 : x.op ≠ 7 := by rw [hgd.2.2.1]; decide
                  have hxs : sh p x = x := sh_ne hx7
                  have hnre : NR p re := by rw [hr2] at hn; exact hn.left.right.tail
                  rcases atomL_emb E hu hp (X := X) (g := g) (grp' := grp') (fun re t => HG s re t hl) (fun re t => HW s re t) hsl h1l hx (by omega) hnre with ha | ⟨⟨hX, e, j, ha, he⟩, hno⟩
                  · have h4 := atomL_tree hl (fun re t => HT ⟨d + s.i, pre ++ s.ended⟩ re t hl) ha
                    simp only at h4
                    rw [ha]
                    simp only
                    rw [E.rep _ (by omega), hr.1, hr.2, Bool.and_self, if_pos rfl, dupL_emb E _ hr.2 hd (by omega)]
                    simp only
                    have h5 : Tr (F + 2) g (x :: re.map (sh p)) (pre ++ s.ended) (pre ++ u.ended) := Tr.node hgd.1 (by rw [hgd.2.2.1]; decide) hx7 (by rw [hgd.2.2.2]; exact h4.1.one)
                    have hall : all.map (sh p) ++ x :: re.map (sh p) = (all ++ x :: re).map (sh p) := by simp [hxs]
                    rw [hall, sh_head]
                    have hv : v.ended = u.ended := hgd.2.1
                    have h6 := rowL_emb E hu hp htop hcl hgA HG HW HT f (all ++ x :: re) (m + 1) _ v r t f2 h h2e ht hn (by omega) (by rw [hv]; exact h4.2) (by rw [hv, ← hall]; exact htr.append h5.one)
                    rw [hv] at h6
                    exact h6
                  · rw [ha]
                    refine .inr ⟨⟨hX, e, j, rfl, he⟩, ?_⟩
                    have h5 : NTr g (x :: re.map (sh p)) (pre ++ s.ended) := NTr.node hx7 (by rw [hgd.2.2.2]; exact hno.one)
                    have h6 := (NTrs.after htr h5).more m2 (l2.map (sh p))
                    rw [hr2]
                    simp only [List.map_append, List.map_cons, hxs]
                    exact h6
              · rw [if_neg hr] at h
                have h3 := (rowL_rise hu hgA _ _ _ _ _ _ _ h1e h).lt
                obtain ⟨m2, l2, hr2⟩ := rowL_pre _ _ _ _ _ _ _ h
                have hnre : NR p re := by rw [hr2] at hn; exact hn.left.right
                rcases atomL_emb E hu hp (X := X) (g := g) (grp' := grp') (fun re t => HG s re t hl) (fun re t => HW s re t) hsl h1l hx (by omega) hnre with ha | ⟨⟨hX, e, j, ha, he⟩, hno⟩
                · have h4 := atomL_tree hl (fun re t => HT ⟨d + s.i, pre ++ s.ended⟩ re t hl) ha
                  simp only at h4
                  rw [ha]
                  simp only
                  rw [E.rep _ (by omega), if_neg hr]
                  have hall : all.map (sh p) ++ re.map (sh p) = (all ++ re).map (sh p) := by simp
                  rw [hall, sh_head]
                  exact rowL_emb E hu hp htop hcl hgA HG HW HT f (all ++ re) (m + 1) _ u r t f2 h h1e ht hn (by omega) h4.2 (by rw [← hall]; exact htr.append (h4.1.mono (Nat.le_succ _)).one)
                · rw [ha]
                  refine .inr ⟨⟨hX, e, j, rfl, he⟩, ?_⟩
                  have h6 := (NTrs.after htr hno).more m2 (l2.map (sh p))
                  rw [hr2]
                  simp only [List.map_append]
                  exact h6
/-- A side out of its parts. -/
def sideN (r : Nat × List Nd) : List Nd := if r.1 = 1 then r.2 else catN r.1 :: r.2
theorem sideN_map (p : Nat) (r : Nat × List Nd) : (sideN r).map (sh p) = sideN (r.1, r.2.map (sh p)) := by
  unfold sideN
  simp only
  split
  · rfl
  · rw [List.map_cons]; rfl
theorem sideN_tree {F g : Nat} {r : Nat × List Nd} {a b : List Bool} (h : Trs (F + 2) g r.1 r.2 a b) : Tr (F + 3) g (sideN r) a b := by
  unfold sideN
  split
  · rename_i hp
    rw [hp] at h
    intro pre post
    have h4 := h pre post
    simp only [kidsN] at h4
    split at h4
    · cases h4
    · rename_i j en hn
      cases h4
      exact nodeN_succ _ _ _ _ _ _ hn
  · rename_i hp
    exact Tr.node (catN_good hp) (by show (4 : Int) ≠ 8; decide) (by show (4 : Int) ≠ 7; decide) (by rw [show (catN r.1).kids.toNat = r.1 from rfl]; exact h)
theorem sideN_none {g : Nat} {r : Nat × List Nd} {a : List Bool} (h : NTrs g r.1 r.2 a) : NTr g (sideN r) a := by
  unfold sideN
  split
  · rename_i hp
    rw [hp] at h
    exact h.un
  · exact NTr.node (by show (4 : Int) ≠ 7; decide) (by rw [show (catN r.1).kids.toNat = r.1 from rfl]; exact h)
theorem sideN_nr {p : Nat} {r : Nat × List Nd} (h : NR p (sideN r)) : NR p r.2 := by
  unfold sideN at h
  split at h
  · exact h
  · exact h.tail
theorem sidesL_emb (E : Emb ere L M d n q) {row row' : Rst → Out (Nat × List Nd)} {F : Nat} {a0 : List Bool}
    (hrR : ∀ s r t, s.i ≤ L.length → row s = .ok r t → Rise L s t)
    (HR : ∀ s r t, (pre ++ s.ended).length ≤ 255 → s.i ≤ L.length → row s = .ok r t → t.i ≤ q → NR p r.2 → row' ⟨d + s.i, pre ++ s.ended⟩ = .ok (r.1, r.2.map (sh p)) ⟨d + t.i, pre ++ t.ended⟩ ∨ (Lim X (row' ⟨d + s.i, pre ++ s.ended⟩) ∧ NTrs g r.1 (r.2.map (sh p)) (pre ++ s.ended)))
    (HT : ∀ s r t, s.ended.length ≤ 255 → row' s = .ok r t → Trs (F + 2) g r.1 r.2 s.ended t.ended ∧ t.ended.length ≤ 255) :
    ∀ (f : Nat) (all : List Nd) (m : Nat) (s : Rst) (re : List Nd) (t : Rst) (f' : Nat), sidesL ere L row f all m s = .ok re t → s.i ≤ L.length → t.i ≤ q → NR p re → (t.i = L.length → (ere && seesAt M (d + t.i) [124]) = false) → M.length < f' + (d + s.i) → (pre ++ s.ended).length ≤ 255 → Trs (F + 3) g m (all.map (sh p)) a0 (pre ++ s.ended) →
      sidesL ere M row' f' (all.map (sh p)) m ⟨d + s.i, pre ++ s.ended⟩ = .ok (re.map (sh p)) ⟨d + t.i, pre ++ t.ended⟩ ∨ (Lim X (sidesL ere M row' f' (all.map (sh p)) m ⟨d + s.i, pre ++ s.ended⟩) ∧ NTr g (re.map (sh p)) a0)
  | 0, _, _, _, _, _, _, h, _, _, _, _, _, _, _ => by simp [sidesL] at h
  | f + 1, all, m, s, re, t, f', h, hsL, ht, hn, hb, hf, hl, htr => by
    have hqn := E.qn
    have hL := E.nL
    have hM := E.nM
    have hrise := (sidesL_rise hrR _ _ _ _ _ _ hsL h).lt
    obtain ⟨f2, rfl⟩ : ∃ f2, f' = f2 + 1 := ⟨f' - 1, by omega⟩
    have h0 := h
    unfold sidesL at h
    split at h
    · cases h
    · rename_i parts r u hx
      have h1 := hrR _ _ _ hsL hx
      have h1l := h1.lt
      have h1e := h1.le
      simp only at h
      split at h
      · cases h
      · rename_i c1
        by_cases hm : (ere && seesAt L u.i [124]) = true
        · -- a bar
          rw [hm] at h
          simp only [Bool.not_true, Bool.false_eq_true, if_false] at h
          have hm2 := hm
          simp only [Bool.and_eq_true] at hm2
          have h2 := seesAt_le (by simp) hm2.2
          simp only [List.length_singleton] at h2
          have h3 := (sidesL_rise hrR f _ _ ⟨u.i + 1, u.ended⟩ _ _ h2 h).lt
          simp only at h3
          obtain ⟨m2, l2, hre⟩ := sidesL_pre _ _ _ _ _ _ h
          rw [if_pos (by omega)] at hre
          have hnr : NR p r := by
            rw [hre] at hn
            exact sideN_nr (r := (parts, r)) hn.tail.left.right
          have hmM : (ere && seesAt M (d + u.i) [124]) = true := by rw [E.sees (by simp only [List.length_singleton]; omega)]; exact hm
          rcases HR s _ _ hl hsL hx (by omega) hnr with hr | ⟨⟨hX, e, j, hr, he⟩, hno⟩
          · have h4 := HT ⟨d + s.i, pre ++ s.ended⟩ _ _ hl hr
            simp only at h4
            have h5 := htr.append (sideN_tree (r := (parts, r.map (sh p))) h4.1).one
            have hall : all.map (sh p) ++ sideN (parts, r.map (sh p)) = (all ++ sideN (parts, r)).map (sh p) := by rw [List.map_append, sideN_map]
            have h6 := sidesL_emb E hrR HR HT f (all ++ sideN (parts, r)) (m + 1) ⟨u.i + 1, u.ended⟩ re t f2 h h2 ht hn hb (by simp only; omega) h4.2 (by rw [← hall]; exact h5)
            have h7 : sidesL ere M row' (f2 + 1) (all.map (sh p)) m ⟨d + s.i, pre ++ s.ended⟩ = sidesL ere M row' f2 ((all ++ sideN (parts, r)).map (sh p)) (m + 1) ⟨d + (u.i + 1), pre ++ u.ended⟩ := by
              rw [sidesL, hr]
              simp only
              rw [hmM]
              rw [hm] at c1
              rw [if_neg c1]
              simp only [Bool.not_true, Bool.false_eq_true, if_false]
              rw [← hall]
              rfl
            rw [h7]
            exact h6
          · refine .inr ⟨⟨hX, e, j, by rw [sidesL, hr], he⟩, ?_⟩
            have h5 := (NTrs.after htr (sideN_none (r := (parts, r.map (sh p))) hno)).more m2 (l2.map (sh p))
            rw [hre]
            refine NTr.node (by rw [sh_op]; show (5 : Int) ≠ 7; decide) ?_
            rw [show (sh p (altN (m + 1 + 1 + m2))).kids.toNat = m + 1 + 1 + m2 from rfl]
            have hall : (all ++ (if parts = 1 then r else catN parts :: r) ++ l2).map (sh p) = all.map (sh p) ++ sideN (parts, r.map (sh p)) ++ l2.map (sh p) := by
              rw [List.map_append, List.map_append]
              congr 2
              exact sideN_map p (parts, r)
            rw [hall]
            have h8 := h5.more 1 []
            rw [List.append_nil] at h8
            rw [show m + 1 + 1 + m2 = m + 1 + m2 + 1 by omega]
            exact h8
        · -- the end
          have hm' : (ere && seesAt L u.i [124]) = false := by simpa using hm
          rw [hm'] at h
          simp only [Bool.not_false, if_true] at h
          simp only [Out.ok.injEq] at h
          obtain ⟨hre, hut⟩ := h
          subst hut
          have hmM : (ere && seesAt M (d + u.i) [124]) = false := by
            by_cases hul : u.i = L.length
            · exact hb hul
            · rw [E.sees (by have := E.lt ht (by omega); simp only [List.length_singleton]; omega)]; exact hm'
          have hre2 : re = if 1 < m + 1 then altN (m + 1) :: (all ++ sideN (parts, r)) else all ++ sideN (parts, r) := hre.symm
          have hnr : NR p r := by
            rw [hre2] at hn
            split at hn
            · exact sideN_nr (r := (parts, r)) hn.tail.right
            · exact sideN_nr (r := (parts, r)) hn.right
          have hall : (all ++ sideN (parts, r)).map (sh p) = all.map (sh p) ++ sideN (parts, r.map (sh p)) := by rw [List.map_append, sideN_map]
          have hmap : re.map (sh p) = if 1 < m + 1 then altN (m + 1) :: (all.map (sh p) ++ sideN (parts, r.map (sh p))) else all.map (sh p) ++ sideN (parts, r.map (sh p)) := by
            rw [hre2]
            split
            · rw [List.map_cons, hall]; rfl
            · exact hall
          rcases HR s _ _ hl hsL hx ht hnr with hr | ⟨⟨hX, e, j, hr, he⟩, hno⟩
          · refine .inl ?_
            rw [sidesL, hr]
            simp only
            rw [hmM]
            rw [hm'] at c1
            rw [if_neg c1]
            simp only [Bool.not_false, if_true, Out.ok.injEq, and_true]
            rw [hmap]
            rfl
          · refine .inr ⟨⟨hX, e, j, by rw [sidesL, hr], he⟩, ?_⟩
            have h5 := NTrs.after htr (sideN_none (r := (parts, r.map (sh p))) hno)
            rw [hmap]
            split
            · exact NTr.node (by show (5 : Int) ≠ 7; decide) (by rw [show (altN (m + 1)).kids.toNat = m + 1 from rfl]; exact h5)
            · rename_i hm1
              have hm0 : m = 0 := by omega
              subst hm0
              exact h5.un
theorem groupL_emb (E : Emb ere L M d n q) (hu : ∀ i, i < L.length → (markAt L i).b < 256) (hp : pre.length = p) : ∀ (k k' : Nat), k' ≤ k → k ≤ 64 → ∀ (s : Rst) (re : List Nd) (t : Rst), (pre ++ s.ended).length ≤ 255 → s.i + wideB ere ≤ L.length → groupL ere L k s = .ok re t → t.i ≤ q → NR p re →
    EmbG (k' ≠ k ∨ 0 < p) d p (64 - k') pre s (groupL ere M k' ⟨d + s.i, pre ++ s.ended⟩) re t
  | 0, _, _, _, s, re, t, _, _, h, _, _ => by simp [groupL] at h
  | k + 1, k', hk, hk64, s, re, t, hl, hs, h, ht, hn => by
    have hw := wideB_pos ere
    have hqn := E.qn
    have hL := E.nL
    have hM := E.nM
    have h0 := h
    unfold groupL at h
    split at h
    · cases h
    · rename_i c1
      split at h
      · cases h
      · rename_i r u hx
        split at h
        · cases h
        · rename_i c2
          cases h
          simp only at ht
          have hpl : (pre ++ s.ended).length = p + s.ended.length := by rw [List.length_append, hp]
          have hgm : (groupN (s.ended.length + 1) :: r).map (sh p) = groupN ((pre ++ s.ended).length + 1) :: r.map (sh p) := by
            rw [List.map_cons, sh_group, hpl, show s.ended.length + 1 + p = p + s.ended.length + 1 by omega]
          cases k' with
          | zero =>
            refine .inr ⟨⟨.inl (by omega), 46, _, rfl, .inl rfl⟩, ?_⟩
            rw [hgm]
            exact NTr.far (.inl (by omega))
          | succ k' =>
            by_cases h255 : (pre ++ s.ended).length = 255
            · refine .inr ⟨⟨.inr (by omega), 47, d + s.i, ?_, .inr rfl⟩, ?_⟩
              · rw [groupL, if_pos h255]
              · rw [hgm]
                exact NTr.far (.inr (by omega))
            · have hx2 := (sidesL_rise (fun s r t h0 h => rowS_rise hu k h0 h) _ _ _ _ _ _ (by simpa using hs) hx)
              have hul := hx2.lt
              simp only at hul
              have hX : (k' ≠ k ∨ 0 < p) → (k' + 1 ≠ k + 1 ∨ 0 < p) := fun h => h.imp (fun h => by omega) id
              have hrow : ∀ (s : Rst) (r : Nat × List Nd) (t : Rst), (pre ++ s.ended).length ≤ 255 → s.i ≤ L.length → rowS ere false L (groupL ere L k) s = .ok r t → t.i ≤ q → NR p r.2 →
                  rowS ere false M (groupL ere M k') ⟨d + s.i, pre ++ s.ended⟩ = .ok (r.1, r.2.map (sh p)) ⟨d + t.i, pre ++ t.ended⟩ ∨ (Lim (k' ≠ k ∨ 0 < p) (rowS ere false M (groupL ere M k') ⟨d + s.i, pre ++ s.ended⟩) ∧ NTrs (64 - k') r.1 (r.2.map (sh p)) (pre ++ s.ended)) :=
                fun s r t hl hsL hr ht hn =>
                  rowL_emb E hu hp (F := 4 * k') (fun _ => rfl) (fun _ _ => rfl) (fun s re t => groupL_adv hu k s re t) (fun s re t hl hs hg ht hn => groupL_emb E hu hp k k' (by omega) (by omega) s re t hl hs hg ht hn) (fun s re t hs hg => groupL_adv2 hu k hs hg)
                    (fun s re t hl hg => groupL_tree k' (by omega) s re t hl hg) _ _ _ _ s r t (M.length + 1) hr hsL ht hn (by omega) hl (Trs.nil _ _ _)
              have hse := sidesL_emb E (pre := pre) (p := p) (X := (k' ≠ k ∨ 0 < p)) (g := 64 - k') (F := 4 * k') (a0 := pre ++ (s.ended ++ [false])) (fun s r t h0 h => rowS_rise hu k h0 h) hrow
                (fun s r t hl hr => rowL_tree (fun s re t => groupL_tree k' (by omega) s re t) s.ended _ _ _ _ _ _ _ hl (Trs.nil _ _ _) hr)
                (L.length + 1) [] 0 ⟨s.i + wideB ere, s.ended ++ [false]⟩ r u (M.length + 1) hx (by simpa using hs) (by omega) hn.tail (fun h => by omega) (by simp only; omega)
                (by simp only [List.length_append, List.length_singleton] at hpl h255 hl ⊢; omega) (Trs.nil _ _ _)
              simp only [List.map_nil] at hse
              rw [← List.append_assoc, ← Nat.add_assoc] at hse
              have hM2 : groupL ere M (k' + 1) ⟨d + s.i, pre ++ s.ended⟩ = match sidesL ere M (rowS ere false M (groupL ere M k')) (M.length + 1) [] 0 ⟨d + s.i + wideB ere, pre ++ s.ended ++ [false]⟩ with
                | .no e i => .no e i
                | .ok re t => if t.i = M.length then .no 41 (d + s.i) else .ok (groupN ((pre ++ s.ended).length + 1) :: re) ⟨t.i + wideB ere, t.ended.set (pre ++ s.ended).length true⟩ := by
                rw [groupL, if_neg h255]
                rfl
              unfold EmbG
              rw [hM2, hgm]
              rcases hse with hse | ⟨⟨hXX, e, j, hse, he⟩, hno⟩
              · rw [hse]
                simp only
                refine .inl ?_
                rw [if_neg (by omega), Nat.add_assoc, List.set_append_right _ _ (by omega), hpl, hp, show p + s.ended.length - p = s.ended.length by omega]
              · rw [hse]
                refine .inr ⟨⟨hX hXX, e, j, rfl, he⟩, NTr.group ?_⟩
                rw [show 64 - (k' + 1) + 1 = 64 - k' by omega]
                exact hno
end
end Go.Proofs.YtbdjcmhfcdamiaaGreatDoor
