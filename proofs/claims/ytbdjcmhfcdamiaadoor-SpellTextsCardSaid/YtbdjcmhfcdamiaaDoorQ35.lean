/- Parts: Bm. -/
import Derived.Test.YtbdjcmhfcdamiaaDoorQ31
import Derived.Test.YtbdjcmhfcdamiaaDoorQ34
import Derived.Test.YtbdjcmhfcdamiaaDoorQ26
/- A bag is made of lists that lie ahead of it. -/
namespace Go.Proofs.YtbdjcmhfcdamiaaDoor
open Go.RowKit

theorem MkV.inn {w : World} {oa : Option Addr} {cap : Nat} {L : List Mk} (h : MkV w oa cap L) (hl : L.length ≤ 1073741824) : MkIn w oa L :=
  ⟨hl, fun hp => by
    obtain ⟨mb, mo, h1, h2, h3⟩ := h.at_ hp
    refine ⟨mb, mo, h1, h2, fun i m hm => ?_⟩
    obtain ⟨hi, rfl⟩ := List.getElem?_eq_some_iff.1 hm
    have e : markAt L i = L[i] := by simp [markAt, List.getD_eq_getElem?_getD, hi]
    have := h3 i hi
    have hu := h.u i hi
    rw [e] at this hu
    exact ⟨this.1, this.2, hu⟩⟩
theorem Bgl.of {w : World} {base : Nat} {e es : TypeId} {size : Nat} {vs : List Value} {ns : List Nat} {X : Nat → List Value} {gb fld : Nat} {bv : Value} (len : ns.length = vs.length) (a : ∀ (i : Nat) (v : Value) (n : Nat), vs[i]? = some v → ns[i]? = some n → w.ownsRow base e size v n (X i))
    (lt : ∀ (i : Nat) (v : Value) (b : Nat), vs[i]? = some v → v.ownBlock = some b → b < gb) (ap : ∀ (i j : Nat) (v u : Value) (b : Nat), vs[i]? = some v → vs[j]? = some u → v.ownBlock = some b → u.ownBlock = some b → i = j)
    (r : w.ownsRow (gb + 1) es 1 bv vs.length vs) (hb : base ≤ gb + 1) (c : w.cell? ⟨gb, fld, none⟩ = some bv) (cl : gb < w.heap.size) : Bgl w base e es size vs ns X gb fld bv :=
  ⟨len, a, ap, ownsRow_mono r hb, fun i v b hv hvb hbb => by have := lt i v b hv hvb; have := (r.lt b hbb).1; omega, c, cl, fun i v hv hg => by have := lt i v gb hv hg; omega, fun hg => by have := (r.lt gb hg).1; omega⟩
/-- Lists lie in blocks one behind the other. -/
def Rising (vs : List Value) : Prop := ∀ (i j : Nat) (v u : Value) (b c : Nat), i < j → vs[i]? = some v → vs[j]? = some u → v.ownBlock = some b → u.ownBlock = some c → b < c
theorem Rising.ap {vs : List Value} (h : Rising vs) : ∀ (i j : Nat) (v u : Value) (b : Nat), vs[i]? = some v → vs[j]? = some u → v.ownBlock = some b → u.ownBlock = some b → i = j := fun i j v u b hi hj hb hc => by
  rcases Nat.lt_trichotomy i j with hlt | heq | hgt
  · exact absurd (h i j v u b b hlt hi hj hb hc) (Nat.lt_irrefl b)
  · exact heq
  · exact absurd (h j i u v b b hgt hj hi hc hb) (Nat.lt_irrefl b)
theorem rising_nil : Rising [] := fun i j v u b c _ hi => by simp at hi
theorem rising_one (v : Value) : Rising [v] := fun i j v u b c hij hi hj => by
  have := (List.getElem?_eq_some_iff.1 hj).1
  simp at this
  omega
theorem rising_two {v1 v2 : Value} (h : ∀ b c, v1.ownBlock = some b → v2.ownBlock = some c → b < c) : Rising [v1, v2] := fun i j v u b c hij hi hj hb hc => by
  have := (List.getElem?_eq_some_iff.1 hj).1
  simp at this
  obtain ⟨rfl, rfl⟩ : i = 0 ∧ j = 1 := by omega
  cases hi
  cases hj
  exact h b c hb hc
theorem rising_three {v1 v2 v3 : Value} (h12 : ∀ b c, v1.ownBlock = some b → v2.ownBlock = some c → b < c) (h13 : ∀ b c, v1.ownBlock = some b → v3.ownBlock = some c → b < c) (h23 : ∀ b c, v2.ownBlock = some b → v3.ownBlock = some c → b < c) : Rising [v1, v2, v3] := fun i j v u b c hij hi hj hb hc => by
  have := (List.getElem?_eq_some_iff.1 hj).1
  simp at this
  have : (i = 0 ∧ j = 1) ∨ (i = 0 ∧ j = 2) ∨ (i = 1 ∧ j = 2) := by omega
  rcases this with ⟨rfl, rfl⟩ | ⟨rfl, rfl⟩ | ⟨rfl, rfl⟩ <;> cases hi <;> cases hj
  · exact h12 b c hb hc
  · exact h13 b c hb hc
  · exact h23 b c hb hc
theorem blk_nil (b : Nat) : ¬ Blk [] b := fun ⟨i, v, hv, _⟩ => by simp at hv
theorem blk_one {v : Value} {b : Nat} (h : Blk [v] b) : v.ownBlock = some b := by
  obtain ⟨i, u, hu, hb⟩ := h
  have := (List.getElem?_eq_some_iff.1 hu).1
  simp at this
  subst this
  cases hu
  exact hb
theorem blk_two {v1 v2 : Value} {b : Nat} (h : Blk [v1, v2] b) : v1.ownBlock = some b ∨ v2.ownBlock = some b := by
  obtain ⟨i, u, hu, hb⟩ := h
  have := (List.getElem?_eq_some_iff.1 hu).1
  simp at this
  have : i = 0 ∨ i = 1 := by omega
  rcases this with rfl | rfl <;> cases hu
  · exact .inl hb
  · exact .inr hb
theorem blk_three {v1 v2 v3 : Value} {b : Nat} (h : Blk [v1, v2, v3] b) : v1.ownBlock = some b ∨ v2.ownBlock = some b ∨ v3.ownBlock = some b := by
  obtain ⟨i, u, hu, hb⟩ := h
  have := (List.getElem?_eq_some_iff.1 hu).1
  simp at this
  have : i = 0 ∨ i = 1 ∨ i = 2 := by omega
  rcases this with rfl | rfl | rfl <;> cases hu
  · exact .inl hb
  · exact .inr (.inl hb)
  · exact .inr (.inr hb)
/-- A list whose cells of a kind are all bytes. -/
def Bytes1 (xs : List Value) : Prop := ∀ (i : Nat) (u : Value), xs[i]? = some u → ∃ z : Int, u = .int .u8 z
theorem bytes1_u8s (l : List Nat) : Bytes1 (u8s l) := fun i u hu => by
  simp only [u8s, List.getElem?_map, Option.map_eq_some_iff] at hu
  obtain ⟨b, _, rfl⟩ := hu
  exact ⟨_, rfl⟩
theorem Bytes1.set {xs : List Value} (h : Bytes1 xs) (i : Nat) (z : Int) : Bytes1 (xs.set i (.int .u8 z)) := fun j u hu => by
  rw [List.getElem?_set] at hu
  split at hu
  · split at hu
    · cases hu; exact ⟨z, rfl⟩
    · cases hu
  · exact h j u hu
theorem WideM.setB {w : World} {base g n : Nat} {L : List Mk} (h : WideM w base g n L) {e b b' : Nat} {p : Bool} (hm : L[e]? = some ⟨b, p⟩) : WideM (w.setCell ⟨g, e * 2, none⟩ (.int .u8 (b' : Nat))) base g n (L.set e ⟨b', p⟩) := by
  have he := (List.getElem?_eq_some_iff.1 hm).1
  refine ⟨by rw [List.length_set]; exact h.1, ?_⟩
  have hr := (World.ownsRow.stored h.row (e * 2) (.int .u8 (b' : Nat))).1
  have hl2 : (L.set e ⟨b', p⟩ ++ spareMs n).length = n + 64 := by rw [List.length_append, List.length_set, spareMs_length, h.1]
  unfold Mks
  rw [hl2]
  have hx : mksC (L.set e ⟨b', p⟩ ++ spareMs n) = (mksC (L ++ spareMs n)).set (e * 2) (.int .u8 (b' : Nat)) := by
    rw [mksC_append, mksC_append, List.set_append_left _ _ (by rw [mksC_length]; omega)]
    congr 1
    clear hr hl2 h
    induction L generalizing e with
    | nil => simp at he
    | cons x l ih =>
      cases e with
      | zero => simp at hm; subst hm; rfl
      | succ e =>
        have h1 : mksC (x :: l) = .int .u8 (x.b : Nat) :: .bool x.p :: mksC l := rfl
        have h2 : mksC (x :: l.set e ⟨b', p⟩) = .int .u8 (x.b : Nat) :: .bool x.p :: mksC (l.set e ⟨b', p⟩) := rfl
        rw [List.set_cons_succ, h1, h2, ih (by simpa using hm) (by simpa using he), show (e + 1) * 2 = e * 2 + 1 + 1 by omega]
        rfl
  rw [hx]
  exact hr
/-- What Text answers, whether or not there is one. -/
theorem textR_row {d : Nat} {L : List Mk} {w w' : World} {e : Ending} {s : List Nat} {b : Bool} (hs : (textL d L).getD [] = s) (hb : (textL d L).isSome = b) (h : textR d L w e w') : ∃ o c, e = .returned (.tuple #[.slice o s.length c, .bool b]) ∧
    w'.ownsRow w.heap.size 5 1 (.slice o s.length c) s.length (u8s s) ∧ Below w.heap.size w w' := by
  obtain ⟨hbl, hr⟩ := h
  cases ht : textL d L with
  | none =>
    rw [ht] at hr hs hb
    subst hs hb
    exact ⟨none, 0, hr, World.ownsRow_nil _ _ _ _, hbl⟩
  | some s' =>
    rw [ht] at hr hs hb
    have hs' : s' = s := hs
    subst hs' hb
    obtain ⟨v, he, ho⟩ := hr
    obtain ⟨o, c, rfl⟩ := own_form ho
    exact ⟨o, c, he, ho, hbl⟩
theorem row_below {w w' : World} {base : Nat} {e : TypeId} {size : Nat} {v : Value} {n : Nat} {xs : List Value} (h : w.ownsRow base e size v n xs) (hb : Below w.heap.size w w') : w'.ownsRow base e size v n xs := row_of_block h fun g hg => hb.block g (h.lt g hg).2
theorem BtIn.of_row {w : World} {base : Nat} {o : Option Addr} {c : Nat} {L : List Nat} (h : w.ownsRow base 5 1 (.slice o L.length c) L.length (u8s L)) (hl : L.length ≤ 4294967296) : BtIn w o L := by
  obtain ⟨oa, cap, hv, hk⟩ := BtIn.of_own h hl
  simp only [Value.slice.injEq] at hv
  rw [hv.1]
  exact hk
theorem textL_len {d : Nat} {L : List Mk} : ((textL d L).getD []).length ≤ 2 * L.length := by
  cases h : textL d L with
  | none => simp
  | some s =>
    unfold textL at h
    split at h
    · cases h
    · exact textT_length _ _ _ _ h
end Go.Proofs.YtbdjcmhfcdamiaaDoor
