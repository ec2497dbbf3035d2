/- Parts: Own Ra Wd Un. -/
import Derived.Test.YtbdjcmhfcdamiaaGreatDoorQ4
import Derived.Test.YtbdjcmhfcdamiaaGreatDoorQ1
import Derived.Maps.AppendAt
import Derived.Laws.AppendOwnNone
import Derived.Laws.BytesArg
/- Slices that the code makes itself: append from whatever source, in one law; bytes as a text. No condition. -/
namespace Go.Proofs.YtbdjcmhfcdamiaaGreatDoor
open Go.RowKit

/-- A slice type and its elements. -/
structure ElT (P : Program) (t e : TypeId) (size bytes : Nat) (z : Value) : Prop where
  ht : P.underlying t = some (.slice e)
  hi : (P.info? e).map (fun i => (i.zero, i.size, i.bytes)) = some (some z, size, bytes)
  hzs : z.cells.size = size
  hsz : 0 < size

/-- A slice value that holds these cells. -/
def Src (w : World) (v : Value) (m : Nat) (news : List Value) : Prop :=
  (v = .slice none 0 0 ∧ m = 0 ∧ news = []) ∨ ∃ a c, v = .slice (some a) m c ∧ ∀ j u, news[j]? = some u → w.cell? (a.add j) = some u

theorem Src.nil (w : World) : Src w (.slice none 0 0) 0 [] := .inl ⟨rfl, rfl, rfl⟩
theorem Src.own {w : World} {base e size n : Nat} {v : Value} {xs : List Value} (h : w.ownsRow base e size v n xs) : Src w v n xs := by
  rcases h.2 with ⟨rfl, rfl⟩ | ⟨g, cap, cur, rfl, hb, hg, rest⟩
  · refine .inl ⟨rfl, rfl, List.eq_nil_of_length_eq_zero (by simpa using h.1)⟩
  · exact .inr ⟨_, _, rfl, h.cells rfl⟩
theorem Src.new (w : World) (cs : List Value) (e m c : Nat) : Src (w.alloc (.cells cs.toArray e)) (.slice (some ⟨w.heap.size, 0, none⟩) m c) m cs := by
  refine .inr ⟨_, _, rfl, fun j u hu => ?_⟩
  have hadd : (⟨w.heap.size, 0, none⟩ : Addr).add j = ⟨w.heap.size, j, none⟩ := by unfold Addr.add; split <;> simp_all
  rw [hadd, cell_of_row _ _ j _ e (0, 0) (heap_alloc_new w _)]
  simpa using hu

theorem wpList_app {P : Program} {w : World} {ops : Array Oper} {rest : List Oper} {o : Oper} {a : Act} {Q : Exit → Act → World → Prop} {t e : TypeId} {size bytes : Nat} {z : Value} (E : ElT P t e size bytes z)
    (hgd : o.guard = none) (s x : Operand) (ho : o.op = .call { callee := .builtin .append, args := #[s, x], argTypes := #[t, t] })
    (base : Nat) {v sv : Value} {n m : Nat} {xs news : List Value} (hs : a.eval s = v) (hown : w.ownsRow base e size v n xs) (hx : a.eval x = sv) (hsrc : Src w sv m news)
    (hl : news.length = m * size) (h1 : ∀ u ∈ news, u.oneCell' = true) (h63 : n + m ≤ maxLen) (hbytes : (n + m) * bytes ≤ 140737488355328) (hbase : base ≤ w.heap.size)
    (h : ∀ v' w', w'.ownsRow base e size v' (n + m) (xs ++ news) → w.grownBy w' v.ownBlock → (v'.ownBlock = v.ownBlock ∨ v'.ownBlock = some w.heap.size) → wpList P ops Q rest (a.put o.dst v') w') :
    wpList P ops Q (o :: rest) a w := by
  obtain ⟨i, hi, hz0, hz1, hz2⟩ := info_parts E.hi
  rcases hsrc with ⟨rfl, rfl, rfl⟩ | ⟨ad, c, rfl, hc⟩
  · refine wpList_append_own_none hgd s x t ho base e i size E.ht hi v n xs hs hown hx ?_
    have := h v w (by simpa using hown) (World.grownBy.refl w _) (.inl rfl)
    exact this
  · exact wpList_append_own_at w hgd s x t ho base e i z size bytes E.ht hi hz0 hz1 hz2 E.hzs E.hsz v n xs hs hown ad m c news hx hl hc h1 h63 hbytes hbase (fun v' w' h2 h3 _ h5 => h v' w' h2 h3 h5)

theorem elU8 : ElT Tryz.prog 71 5 1 1 (.int .u8 0) := ⟨Tryz.underlying71, by kernel_rfl, rfl, by decide⟩

/-- Bytes as cells. -/
def u8s (l : List Nat) : List Value := l.map fun b => .int .u8 (b : Nat)
theorem bytesOf_nums (l : List Nat) (h : ∀ b ∈ l, b < 256) : bytesOf (strOfNums (l.map fun b : Nat => (b : Int))) = l := by
  simp only [bytesOf, strOfNums_data, List.map_map]
  conv => rhs; rw [← List.map_id l]
  refine List.map_congr_left fun b hb => ?_
  have := h b hb
  simp [Function.comp]
  omega
end Go.Proofs.YtbdjcmhfcdamiaaGreatDoor

/- Package syntax's reader: nodes; one. -/
namespace Go.Proofs.YtbdjcmhfcdamiaaGreatDoor
open Go.RowKit

def ndCells (x : Nd) : Array Value := #[.int .i8 x.op, .int .u64 x.set.w0.toNat, .int .u64 x.set.w1.toNat, .int .u64 x.set.w2.toNat, .int .u64 x.set.w3.toNat, .int .i64 x.n, .int .i64 x.min, .int .i64 x.max, .int .i64 x.kids]
abbrev ndV (x : Nd) : Value := .agg #[.int .i8 x.op, .int .u64 x.set.w0.toNat, .int .u64 x.set.w1.toNat, .int .u64 x.set.w2.toNat, .int .u64 x.set.w3.toNat, .int .i64 x.n, .int .i64 x.min, .int .i64 x.max, .int .i64 x.kids]
/-- Is there a block of a node? -/
def isNd (w : World) (B : Nat) : Prop := ∃ cs : Array Value, cs.size = 9 ∧ w.heap[B]? = some (.cells cs 39 (0, 0))
theorem isNd.lt {w : World} {B : Nat} (h : isNd w B) : B < w.heap.size := by
  obtain ⟨_, _, h⟩ := h
  exact (Array.getElem?_eq_some_iff.1 h).1
theorem isNd.below {w w' : World} {B : Nat} (h : isNd w B) (hb : Below w.heap.size w w') : isNd w' B := by
  obtain ⟨cs, hs, hc⟩ := h
  exact ⟨cs, hs, (hb.block B (isNd.lt ⟨cs, hs, hc⟩)).trans hc⟩
theorem isNd.cells {w : World} {B : Nat} (h : isNd w B) : ∃ a0 a1 a2 a3 a4 a5 a6 a7 a8, w.cell? ⟨B, 0, none⟩ = some a0 ∧ w.cell? ⟨B, 1, none⟩ = some a1 ∧ w.cell? ⟨B, 2, none⟩ = some a2 ∧ w.cell? ⟨B, 3, none⟩ = some a3 ∧ w.cell? ⟨B, 4, none⟩ = some a4 ∧ w.cell? ⟨B, 5, none⟩ = some a5 ∧ w.cell? ⟨B, 6, none⟩ = some a6 ∧ w.cell? ⟨B, 7, none⟩ = some a7 ∧ w.cell? ⟨B, 8, none⟩ = some a8 ∧ (∀ o, w.frozen? ⟨B, o, none⟩ = false) := by
  obtain ⟨cs, hs, h⟩ := h
  obtain ⟨a0, a1, a2, a3, a4, a5, a6, a7, a8, rfl⟩ : ∃ a0 a1 a2 a3 a4 a5 a6 a7 a8, cs = #[a0, a1, a2, a3, a4, a5, a6, a7, a8] := by
    obtain ⟨l⟩ := cs
    match l, hs with
    | [a0, a1, a2, a3, a4, a5, a6, a7, a8], _ => exact ⟨a0, a1, a2, a3, a4, a5, a6, a7, a8, rfl⟩
  have hc : ∀ j, w.cell? ⟨B, j, none⟩ = (#[a0, a1, a2, a3, a4, a5, a6, a7, a8] : Array Value)[j]? := fun j => cell_of_row w B j _ _ (0, 0) h
  exact ⟨a0, a1, a2, a3, a4, a5, a6, a7, a8, hc 0, hc 1, hc 2, hc 3, hc 4, hc 5, hc 6, hc 7, hc 8, frozen_cls h⟩

end Go.Proofs.YtbdjcmhfcdamiaaGreatDoor

/- Contracts of package bracket's reader. -/
namespace Go.Proofs.YtbdjcmhfcdamiaaGreatDoor
open Go.RowKit

/-- Marks in memory. -/
structure MkAt (w : World) (mb mo : Nat) (L : List Mk) : Prop where
  lt : mb < w.heap.size
  len : L.length ≤ 4096
  b : ∀ i, i < L.length → w.cell? ⟨mb, mo + i * 2, none⟩ = some (.int .u8 ((markAt L i).b : Int))
  p : ∀ i, i < L.length → w.cell? ⟨mb, mo + i * 2 + 1, none⟩ = some (.bool (markAt L i).p)
  u : ∀ i, i < L.length → (markAt L i).b < 256
theorem MkAt.below {w w' : World} {mb mo : Nat} {L : List Mk} (h : MkAt w mb mo L) (hb : Below w.heap.size w w') : MkAt w' mb mo L :=
  ⟨Nat.lt_of_lt_of_le h.lt hb.size, h.len, fun i hi => (hb.cell (p := ⟨mb, mo + i * 2, none⟩) h.lt).trans (h.b i hi), fun i hi => (hb.cell (p := ⟨mb, mo + i * 2 + 1, none⟩) h.lt).trans (h.p i hi), h.u⟩

/-- Is there a block of a thing? -/
def isTh (w : World) (B : Nat) : Prop := ∃ a0 a1 a2 a3 a4 a5 a6 : Value, w.heap[B]? = some (.cells #[a0, a1, a2, a3, a4, a5, a6] 191 (0, 0))
theorem isTh.lt {w : World} {B : Nat} (h : isTh w B) : B < w.heap.size := by
  obtain ⟨_, _, _, _, _, _, _, h⟩ := h
  exact (Array.getElem?_eq_some_iff.1 h).1
theorem isTh.below {w w' : World} {B : Nat} (h : isTh w B) (hb : Below w.heap.size w w') : isTh w' B := by
  have hlt := h.lt
  obtain ⟨a0, a1, a2, a3, a4, a5, a6, h⟩ := h
  exact ⟨a0, a1, a2, a3, a4, a5, a6, (hb.block B hlt).trans h⟩
@[go_sem ↓ high] theorem isTh_alloc (w : World) (o : Obj) (B : Nat) (h : isTh w B) : isTh (w.alloc o) B = True := eq_true (h.below ((Below.refl _ _).alloc (Nat.le_refl _) o))
@[go_sem ↓ high] theorem isTh_drew (w : World) (B : Nat) (h : isTh w B) : isTh w.drew B = True := eq_true h
end Go.Proofs.YtbdjcmhfcdamiaaGreatDoor

/- A mark of its own for a place. -/
namespace Go.Proofs.YtbdjcmhfcdamiaaGreatDoor
open Go.RowKit
theorem num_call (a b : Int) {w : World} (ha : 0 ≤ a) (ha2 : a ≤ 1000) (hb : 0 ≤ b) (hb2 : b ≤ 8589934592) :
    Calls Tryz.prog 27 #[.int .i64 a, .int .i64 b] w fun e w' => e = .returned (.int .i64 (1048576 * a + b + 1)) ∧ w = w' := by
  go_enter Tryz.func27, Tryz.ntmps27
  go_wp2_with fail
  go_ret
  exact ⟨rfl, rfl⟩
end Go.Proofs.YtbdjcmhfcdamiaaGreatDoor
