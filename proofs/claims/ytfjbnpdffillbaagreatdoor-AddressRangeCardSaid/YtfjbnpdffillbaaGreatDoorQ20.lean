/- Parts: Th Km Tk. -/
import Derived.Test.YtfjbnpdffillbaaGreatDoorQ18
import Derived.Deep.Slices
import Derived.OpenShut
/- Arguments as they are read: marks, nodes, bytes; the copies that the statements make. -/
namespace Go.Proofs.YtfjbnpdffillbaaGreatDoor
open Go.RowKit Go.ChangeShapes Go.WideShapes Go.Deep

/-- Marks that came in, or were made: a slice. -/
structure MkV (w : World) (oa : Option Addr) (cap : Nat) (L : List Mk) : Prop where
  u : ∀ i, i < L.length → (markAt L i).b < 256
  no : oa = none → L = [] ∧ cap = 0
  cp : L.length ≤ cap
  at_ : 0 < L.length → ∃ mb mo, oa = some ⟨mb, mo, none⟩ ∧ mb < w.heap.size ∧ ∀ i, i < L.length → w.cell? ⟨mb, mo + i * 2, none⟩ = some (.int .u8 ((markAt L i).b : Nat)) ∧ w.cell? ⟨mb, mo + i * 2 + 1, none⟩ = some (.bool (markAt L i).p)
theorem MkV.below {w w' : World} {oa : Option Addr} {cap : Nat} {L : List Mk} (h : MkV w oa cap L) (hb : Below w.heap.size w w') : MkV w' oa cap L :=
  ⟨h.u, h.no, h.cp, fun hp => by
    obtain ⟨mb, mo, h1, h2, h3⟩ := h.at_ hp
    exact ⟨mb, mo, h1, Nat.lt_of_lt_of_le h2 hb.size, fun i hi => ⟨(hb.cell (p := ⟨mb, mo + i * 2, none⟩) h2).trans (h3 i hi).1, (hb.cell (p := ⟨mb, mo + i * 2 + 1, none⟩) h2).trans (h3 i hi).2⟩⟩⟩
theorem MkV.arg {w : World} {oa : Option Addr} {cap : Nat} {L : List Mk} (h : MkV w oa cap L) : 0 < L.length → L.length ≤ 4096 → ∃ mb mo, oa = some ⟨mb, mo, none⟩ ∧ MkAt w mb mo L := fun hn hl => by
  obtain ⟨mb, mo, h1, h2, h3⟩ := h.at_ hn
  exact ⟨mb, mo, h1, h2, hl, fun i hi => (h3 i hi).1, fun i hi => (h3 i hi).2, h.u⟩
theorem mksC_get (L : List Mk) (j : Nat) (u : Value) (h : (mksC L)[j]? = some u) : ∃ i, i < L.length ∧ (j = i * 2 ∧ u = .int .u8 ((markAt L i).b : Nat) ∨ j = i * 2 + 1 ∧ u = .bool (markAt L i).p) := by
  have hj : j < (mksC L).length := (List.getElem?_eq_some_iff.1 h).1
  rw [mksC_length] at hj
  refine ⟨j / 2, by omega, ?_⟩
  obtain ⟨h1, h2⟩ := mksC_at L (j / 2) (by omega)
  by_cases hm : j % 2 = 0
  · left
    have e : j = j / 2 * 2 := by omega
    rw [← e, h] at h1
    exact ⟨e, Option.some.inj h1⟩
  · right
    have e : j = j / 2 * 2 + 1 := by omega
    rw [← e, h] at h2
    exact ⟨e, Option.some.inj h2⟩
theorem MkV.src {w : World} {oa : Option Addr} {cap : Nat} {L : List Mk} (h : MkV w oa cap L) : Src w (.slice oa L.length cap) L.length (mksC L) := by
  cases oa with
  | none =>
    obtain ⟨rfl, rfl⟩ := h.no rfl
    exact Src.nil w
  | some a =>
    refine .inr ⟨a, cap, rfl, fun j u hu => ?_⟩
    obtain ⟨i, hi, hj⟩ := mksC_get L j u hu
    obtain ⟨mb, mo, ha, _, h3⟩ := h.at_ (by omega)
    cases ha
    have hadd : ∀ k, (⟨mb, mo, none⟩ : Addr).add k = ⟨mb, mo + k, none⟩ := fun k => by unfold Addr.add; split <;> simp_all
    rw [hadd]
    rcases hj with ⟨rfl, rfl⟩ | ⟨rfl, rfl⟩
    · exact (h3 i hi).1
    · rw [← Nat.add_assoc]; exact (h3 i hi).2
theorem Mks.toV {w : World} {base : Nat} {v : Value} {L : List Mk} (h : Mks w base v L) (hu : ∀ i, i < L.length → (markAt L i).b < 256) : ∃ oa cap, v = .slice oa L.length cap ∧ MkV w oa cap L := by
  rcases h.2 with ⟨rfl, h0⟩ | ⟨g, cp, cur, rfl, hg1, hg2, hcp, _⟩
  · have : L = [] := List.eq_nil_of_length_eq_zero h0
    subst this
    exact ⟨none, 0, rfl, hu, fun _ => ⟨rfl, rfl⟩, Nat.le_refl _, fun h => absurd h (by simp)⟩
  · refine ⟨_, _, rfl, hu, (fun h => by cases h), hcp, fun _ => ⟨g, 0, rfl, (Array.getElem?_eq_some_iff.1 hg2).1, fun i hi => ?_⟩⟩
    have hadd : ∀ j, (⟨g, 0, none⟩ : Addr).add j = ⟨g, j, none⟩ := fun j => by unfold Addr.add; split <;> simp_all
    have hc : ∀ j u, (mksC L)[j]? = some u → w.cell? ⟨g, j, none⟩ = some u := fun j u hu => by
      rw [← hadd]; exact World.ownsRow.cells h rfl j u hu
    rw [Nat.zero_add]
    exact ⟨hc _ _ (mksC_at L i hi).1, hc _ _ (mksC_at L i hi).2⟩

theorem long_call (n : Int) {w : World} : Calls Tryz.prog 10 #[.int .i64 n] w fun e w' => e = .returned (.bool (decide (2147483647 < n))) ∧ w = w' := by
  go_enter Tryz.func10, Tryz.ntmps10
  go_wp2_with fail
  go_ret
  exact ⟨rfl, rfl⟩
theorem cell_lt {w : World} {a : Addr} {v : Value} (h : w.cell? a = some v) : a.block < w.heap.size := by
  rcases Nat.lt_or_ge a.block w.heap.size with h' | h'
  · exact h'
  · simp [World.cell?, Array.getElem?_eq_none h'] at h

theorem list_two {α : Type} {l : List α} (h : l.length = 2) : ∃ a b, l = [a, b] := by
  match l, h with
  | [a, b], _ => exact ⟨a, b, rfl⟩

theorem MkV.take {w : World} {oa : Option Addr} {cap : Nat} {L : List Mk} (h : MkV w oa cap L) {n : Nat} (hn : n ≤ L.length) : MkV w oa cap (L.take n) := by
  have hl : (L.take n).length = n := by rw [List.length_take]; omega
  have hm : ∀ i, i < n → markAt (L.take n) i = markAt L i := fun i hi => by
    unfold markAt
    rw [List.getD_eq_getElem?_getD, List.getD_eq_getElem?_getD, List.getElem?_take_of_lt hi]
  refine ⟨fun i hi => ?_, fun h0 => ?_, by rw [hl]; exact Nat.le_trans hn h.cp, fun hp => ?_⟩
  · rw [hl] at hi; rw [hm i hi]; exact h.u i (by omega)
  · obtain ⟨rfl, hc⟩ := h.no h0; exact ⟨by simp, hc⟩
  · rw [hl] at hp
    obtain ⟨mb, mo, h1, h2, h3⟩ := h.at_ (by omega)
    refine ⟨mb, mo, h1, h2, fun i hi => ?_⟩
    rw [hl] at hi
    rw [hm i hi]
    exact h3 i (by omega)

/-! ### Readings -/
section
variable {H : Type} {enc : TypeId × Value → H} {w : World} {spare : Nat → Bool} {held : Bool}
theorem fld {n' : Nat} {fs : Array Field} {cs : List Value} {xs : List (DataW H × List MemPlace)} (hf : ∀ (i : Nat) (f : Field), fs[i]? = some f → DataW.trod enc Tryz.prog w 0 spare held n' f.type ((cs.drop f.offset).take (Tryz.prog.cellsOf f.type)) = xs[i]?)
    {i ty off k : Nat} {f : Field} (hi : fs[i]? = some f) (h1 : f.type = ty) (h2 : f.offset = off) (h3 : Tryz.prog.cellsOf ty = k) : DataW.trod enc Tryz.prog w 0 spare held n' ty ((cs.drop off).take k) = xs[i]? := by
  subst h1 h2 h3
  exact hf i f hi
theorem open_mark {n : Nat} {cs : List Value} {x : DataW H × List MemPlace} (h : DataW.trod enc Tryz.prog w 0 spare held n 131 cs = some x) : ∃ m : Mk, m.b < 256 ∧ cs = [.int .u8 (m.b : Nat), .bool m.p] := by
  obtain ⟨xs, n', _, _, hl, hx, hf⟩ := DataW.trod_struct Tryz.underlying131 h
  have hl2 : cs.length = 2 := hl.trans (by kernel_rfl)
  obtain ⟨c0, c1, rfl⟩ := list_two hl2
  obtain ⟨x0, x1, rfl⟩ := list_two hx
  have h0 := fld hf (i := 0) (ty := 5) (off := 0) (k := 1) rfl rfl rfl (by kernel_rfl)
  have h1 := fld hf (i := 1) (ty := 4) (off := 1) (k := 1) rfl rfl rfl (by kernel_rfl)
  simp only [List.drop_zero, List.take_succ_cons, List.take_zero, List.drop_succ_cons, List.getElem?_cons_zero, List.getElem?_cons_succ] at h0 h1
  obtain ⟨a, ha, _, wa⟩ := DataW.trod_int Tryz.underlying5 h0
  obtain ⟨b, hb, _⟩ := DataW.trod_bool Tryz.underlying4 h1
  simp only [List.cons.injEq, and_true] at ha hb
  have hba := bounds_u8 wa
  exact ⟨⟨a.toNat, b⟩, by show a.toNat < 256; omega, by rw [ha, hb]; show _ = [Value.int .u8 ((a.toNat : Nat) : Int), .bool b]; rw [show ((a.toNat : Nat) : Int) = a by omega]⟩
theorem open_marks {t : TypeId} {n : Nat} {v : Value} {x : DataW H × List MemPlace} (ht : Tryz.prog.underlying t = some (.slice 131)) (h : DataW.trod enc Tryz.prog w 0 spare held n t [v] = some x) : ∃ oa L cap, v = .slice oa L.length cap ∧ MkV w oa cap L := by
  rcases open_slice ht h with ⟨h0, _⟩ | ⟨a, len, cap, m, n', D, Pl, hcs, hb, hl, hm, hmm, hx, hi⟩
  · simp only [List.cons.injEq, and_true] at h0
    exact ⟨none, [], 0, h0, fun i hi => absurd hi (by simp), fun _ => ⟨rfl, rfl⟩, Nat.le_refl _, fun h => absurd h (by simp)⟩
  · simp only [List.cons.injEq, and_true] at hcs
    have e2 : Tryz.prog.cellsOf 131 = 2 := by kernel_rfl
    rw [e2] at hi
    have hlm : len ≤ m := by rw [hmm]; split <;> omega
    obtain ⟨f, hf⟩ := choose_lt (α := Nat × Bool) (n := len) (p := fun i q => q.1 < 256 ∧ w.cell? (a.add (i * 2)) = some (.int .u8 (q.1 : Nat)) ∧ w.cell? (a.add (i * 2 + 1)) = some (.bool q.2)) (fun i hil => by
      obtain ⟨cs', hc, ht'⟩ := hi i (by omega)
      obtain ⟨k, hk, rfl⟩ := open_mark ht'
      obtain ⟨_, _, hat⟩ := World.cells?_some hc
      have a0 := hat 0 (by omega)
      have a1 := hat 1 (by omega)
      rw [add_add] at a0 a1
      exact ⟨(k.b, k.p), hk, a0, a1⟩)
    have hL : ((List.range len).map fun i => (⟨(f i).1, (f i).2⟩ : Mk)).length = len := by simp
    have hmk : ∀ i, i < len → markAt ((List.range len).map fun i => (⟨(f i).1, (f i).2⟩ : Mk)) i = ⟨(f i).1, (f i).2⟩ := fun i hil => by simp [markAt, List.getD_eq_getElem?_getD, hil]
    refine ⟨some a, (List.range len).map fun i => ⟨(f i).1, (f i).2⟩, cap, by rw [hL]; exact hcs, fun i hil => ?_, fun h => (by cases h), by rw [hL]; exact hl, fun hp => ?_⟩
    · rw [hL] at hil
      rw [hmk i hil]
      exact (hf i hil).1
    · rw [hL] at hp
      obtain ⟨b, off, spot⟩ := a
      have c0 := (hf 0 hp).2.1
      have hspot : spot = none := by simpa [Addr.add] using World.cell?_spot c0
      subst hspot
      have hadd : ∀ k, (⟨b, off, none⟩ : Addr).add k = ⟨b, off + k, none⟩ := fun k => by unfold Addr.add; split <;> simp_all
      refine ⟨b, off, rfl, cell_lt c0, fun i hil => ?_⟩
      rw [hL] at hil
      rw [hmk i hil]
      have h1 := (hf i hil).2
      rw [hadd, hadd, ← Nat.add_assoc] at h1
      exact h1
theorem read_marks {t : TypeId} {v : Value} {d : DataW H} {p : List MemPlace} (ht : Tryz.prog.underlying t = some (.slice 131)) (h : DataW.Trod enc Tryz.prog w 0 spare held t v d p) {oa : Option Addr} {len cap : Nat} (hv : v = .slice oa len cap) :
    ∃ L : List Mk, L.length = len ∧ MkV w oa cap L ∧ (L.length = 0 ∨ ∃ el sp, d = .slice el sp ∧ el.length = L.length) := by
  subst hv
  obtain ⟨fuel, hf⟩ := h
  have hf2 := hf
  obtain ⟨ob, L, cap', he, hm⟩ := open_marks ht hf
  simp only [Value.slice.injEq] at he
  obtain ⟨rfl, rfl, rfl⟩ := he
  refine ⟨L, rfl, hm, ?_⟩
  rcases open_slice ht hf2 with ⟨h0, _⟩ | ⟨a, len2, cap2, m, n', D, Pl, hcs, hb, hl, hmx, hmm, hx, hi⟩
  · left
    have h0' : [Value.slice oa L.length cap] = [.slice none 0 0] := h0
    simp only [List.cons.injEq, and_true, Value.slice.injEq] at h0'
    exact h0'.2.1
  · right
    have hcs' : [Value.slice oa L.length cap] = [.slice (some a) len2 cap2] := hcs
    simp only [List.cons.injEq, and_true, Value.slice.injEq] at hcs'
    simp only [Prod.mk.injEq] at hx
    exact ⟨_, _, hx.1, by simp [hcs'.2.1]⟩
end
end Go.Proofs.YtfjbnpdffillbaaGreatDoor

/- Rows of marks that are made, and written to. -/
namespace Go.Proofs.YtfjbnpdffillbaaGreatDoor
open Go.RowKit

theorem made_zeroM (n : Nat) : (madeCells #[Value.int .u8 0, .bool false] (n * 2)).toList = mksC (List.replicate n ⟨0, false⟩) := by
  refine List.ext_getElem? fun j => ?_
  by_cases hj : j < n * 2
  · have h1 := mksC_at (List.replicate n ⟨0, false⟩) (j / 2) (by rw [List.length_replicate]; omega)
    have hg : markAt (List.replicate n ⟨0, false⟩) (j / 2) = ⟨0, false⟩ := by
      unfold markAt
      rw [List.getD_eq_getElem?_getD, List.getElem?_replicate]
      split <;> rfl
    rw [hg] at h1
    have e : ∀ k, j % 2 = k → (madeCells #[Value.int .u8 0, .bool false] (n * 2)).toList[j]? = some (#[Value.int .u8 0, .bool false][k]!) := fun k hk => by
      simp only [madeCells, Array.toList_map, Array.toList_range, List.getElem?_map, List.getElem?_range hj, Option.map_some]
      rw [show (#[Value.int .u8 0, .bool false] : Array Value).size = 2 from rfl, hk]
    by_cases h0 : j % 2 = 0
    · rw [e 0 h0]
      have := h1.1
      rw [show j / 2 * 2 = j by omega] at this
      rw [this]; rfl
    · rw [e 1 (by omega)]
      have := h1.2
      rw [show j / 2 * 2 + 1 = j by omega] at this
      rw [this]; rfl
  · rw [List.getElem?_eq_none (by rw [Array.length_toList, size_madeCells]; omega), List.getElem?_eq_none (by rw [mksC_length, List.length_replicate]; omega)]
theorem mksC_set : ∀ (L : List Mk) (i : Nat) (x : Mk), i < L.length → mksC (L.set i x) = ((mksC L).set (i * 2) (.int .u8 (x.b : Nat))).set (i * 2 + 1) (.bool x.p)
  | [], i, x, h => by simp at h
  | y :: l, 0, x, _ => rfl
  | y :: l, i + 1, x, h => by
    have h1 := mksC_set l i x (by simpa using h)
    have h2 : ∀ (z : Mk) (l : List Mk), mksC (z :: l) = .int .u8 (z.b : Nat) :: .bool z.p :: mksC l := fun _ _ => rfl
    rw [List.set_cons_succ, h2, h2, h1, show (i + 1) * 2 = i * 2 + 1 + 1 by omega]
    rfl
theorem mksC_setB {L : List Mk} {i : Nat} (hi : i < L.length) (b : Nat) : mksC (L.set i ⟨b, (markAt L i).p⟩) = (mksC L).set (i * 2) (.int .u8 (b : Nat)) := by
  rw [mksC_set L i _ hi]
  have h1 := (mksC_at L i hi).2
  refine List.ext_getElem? fun j => ?_
  rw [List.getElem?_set]
  split
  · rename_i hj
    subst hj
    rw [List.length_set, mksC_length, if_pos (by omega), List.getElem?_set, if_neg (by omega), h1]
  · rfl
theorem mksC_setP {L : List Mk} {i : Nat} (hi : i < L.length) (p : Bool) : mksC (L.set i ⟨(markAt L i).b, p⟩) = (mksC L).set (i * 2 + 1) (.bool p) := by
  rw [mksC_set L i _ hi]
  have h1 := (mksC_at L i hi).1
  refine List.ext_getElem? fun j => ?_
  rw [List.getElem?_set, List.getElem?_set, List.getElem?_set]
  by_cases hj : i * 2 + 1 = j
  · subst hj
    rw [if_pos rfl, if_pos rfl, List.length_set]
  · rw [if_neg hj, if_neg hj]
    split
    · rename_i hk
      subst hk
      rw [mksC_length, if_pos (by omega), h1]
    · rfl
/-- A byte stored into a mark of a row. -/
theorem Mks.putB {w : World} {base g n cap i : Nat} {L : List Mk} (h : Mks w base (.slice (some ⟨g, 0, none⟩) n cap) L) (hn : L.length = n) (hi : i < n) (b : Nat) :
    Mks (w.setCell ⟨g, i * 2, none⟩ (.int .u8 (b : Nat))) base (.slice (some ⟨g, 0, none⟩) n cap) (L.set i ⟨b, (markAt L i).p⟩) := by
  unfold Mks at h ⊢
  rw [List.length_set, mksC_setB (by omega), hn]
  rw [hn] at h
  exact (World.ownsRow.stored h _ _).1
theorem Mks.putP {w : World} {base g n cap i : Nat} {L : List Mk} (h : Mks w base (.slice (some ⟨g, 0, none⟩) n cap) L) (hn : L.length = n) (hi : i < n) (p : Bool) :
    Mks (w.setCell ⟨g, i * 2 + 1, none⟩ (.bool p)) base (.slice (some ⟨g, 0, none⟩) n cap) (L.set i ⟨(markAt L i).b, p⟩) := by
  unfold Mks at h ⊢
  rw [List.length_set, mksC_setP (by omega), hn]
  rw [hn] at h
  exact (World.ownsRow.stored h _ _).1
theorem Mks.putM {w : World} {base g n cap i : Nat} {L : List Mk} (h : Mks w base (.slice (some ⟨g, 0, none⟩) n cap) L) (hn : L.length = n) (hi : i < n) (x : Mk) :
    Mks ((w.setCell ⟨g, i * 2, none⟩ (.int .u8 (x.b : Nat))).setCell ⟨g, i * 2 + 1, none⟩ (.bool x.p)) base (.slice (some ⟨g, 0, none⟩) n cap) (L.set i x) := by
  unfold Mks at h ⊢
  rw [List.length_set, mksC_set _ _ _ (by omega), hn]
  rw [hn] at h
  exact (World.ownsRow.stored (World.ownsRow.stored h _ _).1 _ _).1
/-- A mark's two cells in a row; nothing is frozen. -/
theorem Mks.two {w : World} {base g n cap i : Nat} {L : List Mk} (h : Mks w base (.slice (some ⟨g, 0, none⟩) n cap) L) (hn : L.length = n) (hi : i < n) {x : Mk} (hx : markAt L i = x) :
    w.cell? ⟨g, i * 2, none⟩ = some (.int .u8 (x.b : Nat)) ∧ w.cell? ⟨g, i * 2 + 1, none⟩ = some (.bool x.p) ∧ ∀ o, w.frozen? ⟨g, o, none⟩ = false := by
  subst hx
  unfold Mks at h
  rw [hn] at h
  have := mksC_at L i (by omega)
  exact ⟨(World.ownsRow.cellAt h _ (by omega)).trans this.1, (World.ownsRow.cellAt h _ (by omega)).trans this.2, fun o => World.ownsRow.frozenAt h o⟩
/-- The marks written so far. -/
def soFarM (full : List Mk) (n d : Nat) : List Mk := full.take d ++ List.replicate (n - d) ⟨0, false⟩
theorem soFarM_length {full : List Mk} {n d : Nat} (hf : full.length = n) (hd : d ≤ n) : (soFarM full n d).length = n := by
  rw [soFarM, List.length_append, List.length_take, List.length_replicate]; omega
theorem soFarM_set {full : List Mk} {n d : Nat} {x : Mk} (hf : full.length = n) (hd : d < n) (hx : full[d]? = some x) : (soFarM full n d).set d x = soFarM full n (d + 1) := by
  unfold soFarM
  have hl : (full.take d).length = d := by rw [List.length_take]; omega
  rw [List.set_append_right _ _ (by omega), hl, Nat.sub_self, List.take_add_one, hx, show n - d = (n - (d + 1)) + 1 by omega, List.replicate_succ, List.set_cons_zero]
  simp
theorem soFarM_at {full : List Mk} {n d : Nat} (hf : full.length = n) (hd : d < n) : markAt (soFarM full n d) d = ⟨0, false⟩ := by
  unfold soFarM markAt
  have hl : (full.take d).length = d := by rw [List.length_take]; omega
  rw [List.getD_eq_getElem?_getD, List.getElem?_append_right (by omega), List.getElem?_replicate]
  split <;> rfl
theorem soFarM_full {full : List Mk} {n : Nat} (hf : full.length = n) : soFarM full n n = full := by
  unfold soFarM
  rw [List.take_of_length_le (by omega), Nat.sub_self, List.replicate_zero, List.append_nil]
end Go.Proofs.YtfjbnpdffillbaaGreatDoor

/- Readings of nodes in other forms: as a source, of the call's own as one that came in. -/
namespace Go.Proofs.YtfjbnpdffillbaaGreatDoor
open Go.RowKit

theorem nd_src {w : World} {nb no cap : Nat} {re : List Nd} (h : NdAt w nb no re) (k : Nat) (hk : k ≤ re.length) : Src w (.slice (some ⟨nb, no + k * 9, none⟩) (re.drop k).length cap) (re.drop k).length (ndsC (re.drop k)) := by
  refine .inr ⟨_, _, rfl, fun j u hu => ?_⟩
  have hj : j < (ndsC (re.drop k)).length := (List.getElem?_eq_some_iff.1 hu).1
  rw [ndsC_length] at hj
  have hadd : (⟨nb, no + k * 9, none⟩ : Addr).add j = ⟨nb, no + k * 9 + j, none⟩ := by unfold Addr.add; split <;> simp_all
  have hc := ndsC_at (re.drop k) (j / 9) (j % 9) (by omega) (by omega)
  rw [show j / 9 * 9 + j % 9 = j by omega, hu] at hc
  rw [List.length_drop] at hj
  have h1 := (h.c (k + j / 9) (by omega) (j % 9)).resolve_right (by omega)
  have hg : (re.drop k).getD (j / 9) Nd.zero = re.getD (k + j / 9) Nd.zero := by simp [List.getD_eq_getElem?_getD, List.getElem?_drop]
  rw [hg] at hc
  rw [hadd, show no + k * 9 + j = no + (k + j / 9) * 9 + j % 9 by omega, h1, ← hc]
theorem NdV.src {w : World} {oa : Option Addr} {cap : Nat} {re : List Nd} (h : NdV w oa re) (hp : 0 < re.length) : Src w (.slice oa re.length cap) re.length (ndsC re) := by
  obtain ⟨nb, no, rfl, hn⟩ := h.at_ hp
  have := nd_src (cap := cap) hn 0 (by omega)
  simpa using this
theorem Nds.toV2 {w : World} {base : Nat} {v : Value} {re : List Nd} (h : Nds w base v re) (hl : re.length ≤ 4294967296) (hk : ∀ x ∈ re, x.kids ≤ 9223372036854775807) : ∃ oa cp, v = .slice oa re.length cp ∧ re.length ≤ cp ∧ NdV w oa re := by
  rcases h.2 with ⟨rfl, h0⟩ | ⟨g, cp, cur, rfl, hg1, hg2, hcp, _⟩
  · exact ⟨none, 0, by rw [h0], by omega, hl, fun h => by omega⟩
  · refine ⟨_, _, rfl, hcp, hl, fun hn => ⟨g, 0, rfl, (Array.getElem?_eq_some_iff.1 hg2).1, hl, fun i hi j => ?_, hk⟩⟩
    by_cases hj : j < 9
    · left
      have hc := World.ownsRow.cellAt h (i * 9 + j) (by omega)
      rw [show 0 + i * 9 + j = i * 9 + j by omega, hc, ndsC_at re i j hi hj]
    · right; omega
end Go.Proofs.YtfjbnpdffillbaaGreatDoor
