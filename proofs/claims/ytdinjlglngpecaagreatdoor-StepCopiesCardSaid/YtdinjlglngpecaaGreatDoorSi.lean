/- A machine of package step in memory: its blocks, and a world of lines beside it. No condition. -/
import Derived.Test.YtdinjlglngpecaaGreatDoorSde
import Derived.Test.YtdinjlglngpecaaGreatDoorSh
import Derived.Test.YtdinjlglngpecaaGreatDoorSbd
namespace Go.Proofs.YtdinjlglngpecaaGreatDoor
open Go.RowKit

/-- A block's cells, by a list of places. -/
structure BkV (w : World) (b : Nat) (L : List (Nat × Value)) : Prop where
  lt : b < w.heap.size
  fx : ∀ p ∈ L, w.cell? ⟨b, p.1, none⟩ = some p.2
  fz : ∀ o, w.frozen? ⟨b, o, none⟩ = false
theorem BkV.get {w : World} {b : Nat} {L : List (Nat × Value)} (h : BkV w b L) (j : Nat) {i : Nat} {v : Value} (e : L[j]? = some (i, v)) : w.cell? ⟨b, i, none⟩ = some v := h.fx (i, v) (List.mem_of_getElem? e)
theorem BkV.same {w w' : World} {b : Nat} {L : List (Nat × Value)} (h : BkV w b L) (hb : w'.heap[b]? = w.heap[b]?) (hs : w.heap.size ≤ w'.heap.size) : BkV w' b L :=
  ⟨Nat.lt_of_lt_of_le h.lt hs, fun p hp => (World.cell?_of_block (a := ⟨b, p.1, none⟩) hb).trans (h.fx p hp), fun o => (World.frozen?_of_block (w := w) (a := ⟨b, o, none⟩) hb).trans (h.fz o)⟩
theorem BkV.set {w : World} {b : Nat} {L : List (Nat × Value)} (h : BkV w b L) (hn : (L.map (·.1)).Nodup) (j : Nat) {i : Nat} {v : Value} (e : L[j]? = some (i, v)) (v' : Value) : BkV (w.setCell ⟨b, i, none⟩ v') b (L.set j (i, v')) := by
  refine ⟨by simpa [World.setCell] using h.lt, fun p hp => ?_, fun o => (World.frozen?_setCell _ _ _ _).trans (h.fz o)⟩
  obtain ⟨x, hx⟩ := List.mem_iff_getElem?.1 hp
  by_cases hj : j = x
  · subst hj
    rw [List.getElem?_set_self (List.getElem?_eq_some_iff.1 e).1] at hx
    cases hx
    exact World.cell?_setCell_same _ _ _ (h.get j e)
  · rw [List.getElem?_set_ne hj] at hx
    have hne : p.1 ≠ i := fun q => by
      have h1 : (L.map (·.1))[x]? = some i := by rw [List.getElem?_map, hx]; simp [q]
      have h2 : (L.map (·.1))[j]? = some i := by rw [List.getElem?_map, e]; rfl
      obtain ⟨l1, e1⟩ := List.getElem?_eq_some_iff.1 h1
      obtain ⟨l2, e2⟩ := List.getElem?_eq_some_iff.1 h2
      rcases Nat.lt_or_gt_of_ne hj with q1 | q1
      · exact List.pairwise_iff_getElem.1 hn j x l2 l1 q1 (e2.trans e1.symm)
      · exact List.pairwise_iff_getElem.1 hn x j l1 l2 q1 (e1.trans e2.symm)
    exact (World.cell?_setCell_other _ _ _ _ (by intro q; cases q; exact hne rfl)).trans (h.fx p (List.mem_of_getElem? hx))
/-- A machine's blocks: spaces, world, queue, gates, machine, core, commands; how many commands; quiet or not. -/
structure CK where
  sb : Nat
  wb : Nat
  qb : Nat
  gb : Nat
  mb : Nat
  cb : Nat
  pb : Nat
  oc : Option Addr
  nc : Nat
  cc : Nat
  q : Bool
/-- What changes in its core. -/
structure CS where
  fl : Bool
  pl : Int
  nx : Int
  st : Int
  er : Int
  si : Bool
def coreL (k : CK) (s : CS) : List (Nat × Value) :=
  [(0, .pointer (some ⟨k.sb, 0, none⟩)), (1, .slice k.oc k.nc k.cc), (4, .bool k.q), (5, .iface 35 (.pointer (some ⟨k.wb, 0, none⟩))), (8, .pointer (some ⟨k.qb, 0, none⟩)), (9, .pointer (some ⟨k.gb, 0, none⟩)), (122, .func (.func 53) #[.pointer (some ⟨k.cb, 0, none⟩)] #[]),
    (266, .bool s.fl), (267, .int .i64 s.pl), (268, .int .i64 s.nx), (269, .int .i64 s.st), (270, .int .i64 s.er), (271, .bool s.si), (272, .bool false), (273, .bool false)]
theorem coreL_nodup (k : CK) (s : CS) : ((coreL k s).map (·.1)).Nodup := by
  show List.Nodup [0, 1, 4, 5, 8, 9, 122, 266, 267, 268, 269, 270, 271, 272, 273]
  decide
/-- The command p in memory. -/
structure CmP (w : World) (pb : Nat) (l : List Value) : Prop where
  lt : pb < w.heap.size
  cl : CmdL l
  row : w.rangeAt pb 0 l
  ka : l[0]? = some (.int .i8 0)
  nt : l[6]? = some (.bool false)
  nm : l[7]? = some (.int .u8 112)
  r : ∀ i, i = 2 ∨ i = 5 ∨ i = 10 → l[i]? = some (.slice none 0 0)
theorem CmP.same {w w' : World} {pb : Nat} {l : List Value} (h : CmP w pb l) (hb : w'.heap[pb]? = w.heap[pb]?) (hs : w.heap.size ≤ w'.heap.size) : CmP w' pb l :=
  ⟨Nat.lt_of_lt_of_le h.lt hs, h.cl, fun j v hv => (World.cell?_of_block (a := ⟨pb, 0 + j, none⟩) hb).trans (h.row j v hv), h.ka, h.nt, h.nm, h.r⟩
def mfoot (k : CK) (pk : Option Nat) (x : Nat) : Prop := (k.qb ≤ x ∧ x ≤ k.mb) ∨ pk = some x
structure MaS (w : World) (k : CK) (s : CS) (T : List Nat) (pk : Option Nat) : Prop where
  mlt : k.mb < w.heap.size
  m0 : w.cell? ⟨k.mb, 0, none⟩ = some (.pointer (some ⟨k.cb, 0, none⟩))
  co : BkV w k.cb (coreL k s)
  sp : SpcB w k.sb T pk
  qu : QuE w k.qb
  ga : ∃ og cg, w.cell? ⟨k.gb, 0, none⟩ = some (.slice og k.nc cg)
  cm : k.nc = 1 → k.oc = some ⟨k.pb, 0, none⟩ ∧ k.cb < k.pb ∧ k.pb < k.sb ∧ ∃ l, CmP w k.pb l
  or1 : k.qb < k.cb ∧ k.cb < k.sb ∧ k.sb < k.gb ∧ k.gb < k.mb
  opk : ∀ x, pk = some x → k.mb < x
  n01 : k.nc = 0 ∨ k.nc = 1
section
variable {w w' : World} {k : CK} {s s' : CS} {T T' : List Nat} {pk pk' : Option Nat}
theorem MaS.pkLt (h : MaS w k s T pk) {x : Nat} (hx : mfoot k pk x) : x < w.heap.size := hx.elim (fun e => Nat.lt_of_le_of_lt e.2 h.mlt) fun e => h.sp.pkLt e
theorem MaS.keep (h : MaS w k s T pk) {S : Nat → Prop} (hk : Kept w w' S) (hS : ∀ x, x < w.heap.size → S x → ¬ mfoot k pk x) : MaS w' k s T pk := by
  obtain ⟨o1, o2, o3, o4⟩ := h.or1
  have hm := h.mlt
  have r : ∀ x, k.qb ≤ x → x ≤ k.mb → ¬ S x := fun x h1 h2 e => hS x (by omega) e (.inl ⟨h1, h2⟩)
  have bl : ∀ x, k.qb ≤ x → x ≤ k.mb → w'.heap[x]? = w.heap[x]? := fun x h1 h2 => hk.block x (by omega) (r x h1 h2)
  refine ⟨Nat.lt_of_lt_of_le hm hk.size, (World.cell?_of_block (a := ⟨k.mb, 0, none⟩) (bl k.mb (by omega) (by omega))).trans h.m0, h.co.same (bl k.cb (by omega) (by omega)) hk.size, h.sp.keep hk (r _ (by omega) (by omega)) fun x hx e => hS x (h.sp.pkLt hx) e (.inr hx), ⟨Nat.lt_of_lt_of_le h.qu.lt hk.size, (World.cell?_of_block (a := ⟨k.qb, 0, none⟩) (bl k.qb (by omega) (by omega))).trans h.qu.c0, (World.cell?_of_block (a := ⟨k.qb, 1, none⟩) (bl k.qb (by omega) (by omega))).trans h.qu.c1, fun o => (World.frozen?_of_block (w := w) (a := ⟨k.qb, o, none⟩) (bl k.qb (by omega) (by omega))).trans (h.qu.fz o)⟩, ?_, fun e => ?_, h.or1, h.opk, h.n01⟩
  · obtain ⟨og, cg, e⟩ := h.ga
    exact ⟨og, cg, (World.cell?_of_block (a := ⟨k.gb, 0, none⟩) (bl k.gb (by omega) (by omega))).trans e⟩
  · obtain ⟨e1, e2, e3, l, e4⟩ := h.cm e
    exact ⟨e1, e2, e3, l, e4.same (bl k.pb (by omega) (by omega)) hk.size⟩
theorem MaS.below (h : MaS w k s T pk) (hb : Below w.heap.size w w') : MaS w' k s T pk :=
  h.keep (Kept.of_below hb (fun x => w.heap.size ≤ x) fun _ e _ => e) fun x e1 e2 => by omega
/-- A cell of the core is written. -/
theorem MaS.set (h : MaS w k s T pk) (j : Nat) {i : Nat} {v : Value} (e : (coreL k s)[j]? = some (i, v)) (v' : Value) (hs : (coreL k s).set j (i, v') = coreL k s') : MaS (w.setCell ⟨k.cb, i, none⟩ v') k s' T pk ∧ Kept w (w.setCell ⟨k.cb, i, none⟩ v') (mfoot k pk) := by
  obtain ⟨o1, o2, o3, o4⟩ := h.or1
  have hk : Kept w (w.setCell ⟨k.cb, i, none⟩ v') (fun x => x = k.cb) := Kept.setCell _ _ _
  have bl : ∀ x, x ≠ k.cb → (w.setCell ⟨k.cb, i, none⟩ v').heap[x]? = w.heap[x]? := fun x hx => Below.heap_setCell _ _ _ _ hx
  have hsz : w.heap.size ≤ (w.setCell ⟨k.cb, i, none⟩ v').heap.size := hk.size
  refine ⟨⟨Nat.lt_of_lt_of_le h.mlt hsz, (World.cell?_of_block (a := ⟨k.mb, 0, none⟩) (bl k.mb (by omega))).trans h.m0, hs ▸ h.co.set (coreL_nodup k s) j e v', h.sp.keep hk (by omega) fun x hx => by have := h.opk x hx; omega, ⟨Nat.lt_of_lt_of_le h.qu.lt hsz, (World.cell?_of_block (a := ⟨k.qb, 0, none⟩) (bl k.qb (by omega))).trans h.qu.c0, (World.cell?_of_block (a := ⟨k.qb, 1, none⟩) (bl k.qb (by omega))).trans h.qu.c1, fun o => (World.frozen?_of_block (w := w) (a := ⟨k.qb, o, none⟩) (bl k.qb (by omega))).trans (h.qu.fz o)⟩, ?_, fun e => ?_, h.or1, h.opk, h.n01⟩, hk.mono fun x _ e => .inl (by omega)⟩
  · obtain ⟨og, cg, e⟩ := h.ga
    exact ⟨og, cg, (World.cell?_of_block (a := ⟨k.gb, 0, none⟩) (bl k.gb (by omega))).trans e⟩
  · obtain ⟨e1, e2, e3, l, e4⟩ := h.cm e
    exact ⟨e1, e2, e3, l, e4.same (bl k.pb (by omega)) hsz⟩
/-- The pattern is another one. -/
theorem MaS.space (h : MaS w k s T pk) (hk : Kept w w' (fun x => x = k.sb)) (hs : SpcB w' k.sb T' pk') (hp : ∀ x, pk' = some x → w.heap.size ≤ x) : MaS w' k s T' pk' := by
  obtain ⟨o1, o2, o3, o4⟩ := h.or1
  have hm := h.mlt
  have bl : ∀ x, x < w.heap.size → x ≠ k.sb → w'.heap[x]? = w.heap[x]? := fun x hx hn => hk.block x hx hn
  refine ⟨Nat.lt_of_lt_of_le hm hk.size, (World.cell?_of_block (a := ⟨k.mb, 0, none⟩) (bl k.mb (by omega) (by omega))).trans h.m0, h.co.same (bl k.cb (by omega) (by omega)) hk.size, hs, ⟨Nat.lt_of_lt_of_le h.qu.lt hk.size, (World.cell?_of_block (a := ⟨k.qb, 0, none⟩) (bl k.qb (by omega) (by omega))).trans h.qu.c0, (World.cell?_of_block (a := ⟨k.qb, 1, none⟩) (bl k.qb (by omega) (by omega))).trans h.qu.c1, fun o => (World.frozen?_of_block (w := w) (a := ⟨k.qb, o, none⟩) (bl k.qb (by omega) (by omega))).trans (h.qu.fz o)⟩, ?_, fun e => ?_, h.or1, fun x hx => by have := hp x hx; omega, h.n01⟩
  · obtain ⟨og, cg, e⟩ := h.ga
    exact ⟨og, cg, (World.cell?_of_block (a := ⟨k.gb, 0, none⟩) (bl k.gb (by omega) (by omega))).trans e⟩
  · obtain ⟨e1, e2, e3, l, e4⟩ := h.cm e
    exact ⟨e1, e2, e3, l, e4.same (bl k.pb (by omega) (by omega)) hk.size⟩
theorem MaS.queue (h : MaS w k s T pk) (hk : Kept w w' (fun x => x = k.qb)) (hs : QuE w' k.qb) : MaS w' k s T pk := by
  obtain ⟨o1, o2, o3, o4⟩ := h.or1
  have hm := h.mlt
  have bl : ∀ x, x < w.heap.size → x ≠ k.qb → w'.heap[x]? = w.heap[x]? := fun x hx hn => hk.block x hx hn
  refine ⟨Nat.lt_of_lt_of_le hm hk.size, (World.cell?_of_block (a := ⟨k.mb, 0, none⟩) (bl k.mb (by omega) (by omega))).trans h.m0, h.co.same (bl k.cb (by omega) (by omega)) hk.size, h.sp.keep hk (by omega) fun x hx => by have := h.opk x hx; omega, hs, ?_, fun e => ?_, h.or1, h.opk, h.n01⟩
  · obtain ⟨og, cg, e⟩ := h.ga
    exact ⟨og, cg, (World.cell?_of_block (a := ⟨k.gb, 0, none⟩) (bl k.gb (by omega) (by omega))).trans e⟩
  · obtain ⟨e1, e2, e3, l, e4⟩ := h.cm e
    exact ⟨e1, e2, e3, l, e4.same (bl k.pb (by omega) (by omega)) hk.size⟩
end
end Go.Proofs.YtdinjlglngpecaaGreatDoor
