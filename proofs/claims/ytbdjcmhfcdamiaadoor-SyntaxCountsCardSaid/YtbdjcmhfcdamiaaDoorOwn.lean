/- Slices that the code makes itself: append from whatever source, in one law; bytes as a text. No condition. -/
import Derived.Test.YtbdjcmhfcdamiaaDoorWc
import Derived.Maps.AppendAt
import Derived.Laws.AppendOwnNone
import Derived.Laws.BytesArg
namespace Go.Proofs.YtbdjcmhfcdamiaaDoor
open Go.RowKit

/-- A slice type and its elements. -/
structure ElT (P : Program) (t e : TypeId) (size bytes : Nat) (z : Value) : Prop where
  ht : P.underlying t = some (.slice e)
  hi : (P.info? e).map (fun i => (i.zero, i.size, i.bytes)) = some (some z, size, bytes)
  hzs : z.cells.size = size
  hsz : 0 < size

/-- A slice value that holds these cells. -/
def Src (w : World) (v : Value) (m : Nat) (news : List Value) : Prop :=
  (v = .slice none 0 0 ∧ m = 0 ∧ news = []) ∨ ∃ a c, v = .slice (some a) m c ∧ ∀ j u, news[j]? = some u → w.cell? (a.add j) = some u

theorem Src.nil (w : World) : Src w (.slice none 0 0) 0 [] := .inl ⟨rfl, rfl, rfl⟩
theorem Src.own {w : World} {base e size n : Nat} {v : Value} {xs : List Value} (h : w.ownsRow base e size v n xs) : Src w v n xs := by
  rcases h.2 with ⟨rfl, rfl⟩ | ⟨g, cap, cur, rfl, hb, hg, rest⟩
  · refine .inl ⟨rfl, rfl, List.eq_nil_of_length_eq_zero (by simpa using h.1)⟩
  · exact .inr ⟨_, _, rfl, h.cells rfl⟩
theorem Src.new (w : World) (cs : List Value) (e m c : Nat) : Src (w.alloc (.cells cs.toArray e)) (.slice (some ⟨w.heap.size, 0, none⟩) m c) m cs := by
  refine .inr ⟨_, _, rfl, fun j u hu => ?_⟩
  have hadd : (⟨w.heap.size, 0, none⟩ : Addr).add j = ⟨w.heap.size, j, none⟩ := by unfold Addr.add; split <;> simp_all
  rw [hadd, cell_of_row _ _ j _ e (0, 0) (heap_alloc_new w _)]
  simpa using hu

theorem wpList_app {P : Program} {w : World} {ops : Array Oper} {rest : List Oper} {o : Oper} {a : Act} {Q : Exit → Act → World → Prop} {t e : TypeId} {size bytes : Nat} {z : Value} (E : ElT P t e size bytes z)
    (hgd : o.guard = none) (s x : Operand) (ho : o.op = .call { callee := .builtin .append, args := #[s, x], argTypes := #[t, t] })
    (base : Nat) {v sv : Value} {n m : Nat} {xs news : List Value} (hs : a.eval s = v) (hown : w.ownsRow base e size v n xs) (hx : a.eval x = sv) (hsrc : Src w sv m news)
    (hl : news.length = m * size) (h1 : ∀ u ∈ news, u.oneCell' = true) (h63 : n + m ≤ maxLen) (hbytes : (n + m) * bytes ≤ 140737488355328) (hbase : base ≤ w.heap.size)
    (h : ∀ v' w', w'.ownsRow base e size v' (n + m) (xs ++ news) → w.grownBy w' v.ownBlock → (v'.ownBlock = v.ownBlock ∨ v'.ownBlock = some w.heap.size) → wpList P ops Q rest (a.put o.dst v') w') :
    wpList P ops Q (o :: rest) a w := by
  obtain ⟨i, hi, hz0, hz1, hz2⟩ := info_parts E.hi
  rcases hsrc with ⟨rfl, rfl, rfl⟩ | ⟨ad, c, rfl, hc⟩
  · refine wpList_append_own_none hgd s x t ho base e i size E.ht hi v n xs hs hown hx ?_
    have := h v w (by simpa using hown) (World.grownBy.refl w _) (.inl rfl)
    exact this
  · exact wpList_append_own_at w hgd s x t ho base e i z size bytes E.ht hi hz0 hz1 hz2 E.hzs E.hsz v n xs hs hown ad m c news hx hl hc h1 h63 hbytes hbase (fun v' w' h2 h3 _ h5 => h v' w' h2 h3 h5)

theorem elU8 : ElT Tryd.prog 26 5 1 1 (.int .u8 0) := ⟨Tryd.underlying26, by kernel_rfl, rfl, by decide⟩

/-- Bytes as cells. -/
def u8s (l : List Nat) : List Value := l.map fun b => .int .u8 (b : Nat)
theorem u8s_length (l : List Nat) : (u8s l).length = l.length := by simp [u8s]
theorem u8s_one (l : List Nat) : ∀ u ∈ u8s l, u.oneCell' = true := by
  intro u hu
  simp only [u8s, List.mem_map] at hu
  obtain ⟨b, _, rfl⟩ := hu
  rfl

/-- The text of bytes of the call's own. -/
theorem conv_own {w : World} {base n : Nat} {v : Value} {l : List Nat} (h : w.ownsRow base 5 1 v n (u8s l)) :
    (convert 26 9 v).run Tryd.prog w = .ok (.string (strOfNums (l.map fun b : Nat => (b : Int)))) w := by
  rcases h.2 with ⟨rfl, rfl⟩ | ⟨g, cap, cur, rfl, hb, hg, hnc, hcm, hcs, htake⟩
  · have hl : l = [] := List.eq_nil_of_length_eq_zero (by have := h.1; simpa [u8s_length] using this)
    subst hl
    exact run_convert_bytes_nil w _ _ Tryd.underlying26 Tryd.underlying5 _ _ _ Tryd.underlying9
  · have hln : l.length = n := by have := h.1; simpa [u8s_length] using this
    refine run_convert_bytes_arg w _ _ Tryd.underlying26 Tryd.underlying5 g 0 n cap _ (by simpa using hln) (fun i hi => ?_) _ Tryd.underlying9
    have hadd : (⟨g, 0, none⟩ : Addr).add i = ⟨g, 0 + i, none⟩ := by unfold Addr.add; split <;> simp_all
    rw [← hadd]
    refine h.cells (g := g) rfl i _ ?_
    simp [u8s, List.getD_eq_getElem?_getD, show i < l.length by omega]
theorem bytesOf_nums (l : List Nat) (h : ∀ b ∈ l, b < 256) : bytesOf (strOfNums (l.map fun b : Nat => (b : Int))) = l := by
  simp only [bytesOf, strOfNums_data, List.map_map]
  conv => rhs; rw [← List.map_id l]
  refine List.map_congr_left fun b hb => ?_
  have := h b hb
  simp [Function.comp]
  omega
end Go.Proofs.YtbdjcmhfcdamiaaDoor
