/- Plain laws of the reader: marks that stand in other marks are read there as they are. -/
import Derived.Test.YtbdjcmhfcdamiaaPa
namespace Go.Proofs.Ytbdjcmhfcdamiaa

theorem seesAt_nil (L : List Mk) (p : Nat) : seesAt L p [] = true := by unfold seesAt; cases L.drop p <;> rfl
theorem seesAt_cons (L : List Mk) (p c : Nat) (s : List Nat) : seesAt L p (c :: s) = (decide (p < L.length) && (!(markAt L p).p && (markAt L p).b == c && seesAt L (p + 1) s)) := by
  by_cases h : p < L.length
  · rw [decide_eq_true h, Bool.true_and]
    unfold seesAt
    rw [List.drop_eq_getElem_cons h, seesL]
    simp [markAt, List.getD_eq_getElem?_getD, h]
  · rw [decide_eq_false h, Bool.false_and]
    unfold seesAt
    rw [List.drop_eq_nil_of_le (by omega)]
    rfl
/-- The marks of L stand in M from d on: the first n; up to the place q the reader sees the same. -/
structure Emb (ere : Bool) (L M : List Mk) (d n q : Nat) : Prop where
  qn : q ≤ n
  qs : q < n ∨ n = L.length
  nL : n ≤ L.length
  nM : d + n ≤ M.length
  eq : ∀ j, j < n → markAt M (d + j) = markAt L j
  rep : ∀ p, p ≤ q → repeatsL ere M (d + p) = repeatsL ere L p
  close : ∀ p, p ≤ q → p < L.length → seesAt M (d + p) (signB ere 41) = seesAt L p (signB ere 41)
  fin : ∀ p, p ≤ q → ere = false → (decide (d + p < M.length) && !seesAt M (d + p) [92, 41]) = (decide (p < L.length) && !seesAt L p [92, 41])
  term : q = L.length → M.length = d + q ∨ (ere && seesAt M (d + q) [124]) = true ∨ seesAt M (d + q) (signB ere 41) = true
section
variable {ere : Bool} {L M : List Mk} {d n q : Nat}
theorem seesAt_emb (nL : n ≤ L.length) (nM : d + n ≤ M.length) (eq : ∀ j, j < n → markAt M (d + j) = markAt L j) : ∀ (s : List Nat) (p : Nat), p + s.length ≤ n → seesAt M (d + p) s = seesAt L p s
  | [], p, _ => by rw [seesAt_nil, seesAt_nil]
  | c :: s, p, h => by
    simp only [List.length_cons] at h
    rw [seesAt_cons, seesAt_cons, eq p (by omega), decide_eq_true (show d + p < M.length by omega), decide_eq_true (show p < L.length by omega), Nat.add_assoc, seesAt_emb nL nM eq s (p + 1) (by omega)]
theorem Emb.sees (E : Emb ere L M d n q) {s : List Nat} {p : Nat} (h : p + s.length ≤ n) : seesAt M (d + p) s = seesAt L p s := seesAt_emb E.nL E.nM E.eq s p h
theorem Emb.lt (E : Emb ere L M d n q) {p : Nat} (h1 : p ≤ q) (h2 : p < L.length) : p < n := by have := E.qn; have := E.qs; omega
theorem Emb.sign (E : Emb ere L M d n q) {i : Nat} (c : Nat) (h : i < n) : signAt M (d + i) c = signAt L i c := by
  have := E.nL; have := E.nM
  unfold signAt
  rw [E.eq i h, decide_eq_true (show d + i < M.length by omega), decide_eq_true (show i < L.length by omega)]

/-! ### Brackets -/
theorem nameL_emb (E : Emb ere L M d n q) {at0 b at1 b1 : Nat} : ∀ (f i : Nat) (s : List Nat) (x : Th) (f' : Nat), nameL L at0 b f i s = (x, none) → x.next ≤ n → n ≤ f' + i → nameL M at1 b1 f' (d + i) s = (⟨x.set, x.b, x.fin, d + x.next⟩, none)
  | 0, _, _, _, _, h, _, _ => by simp [nameL] at h
  | f + 1, i, s, x, f', h, hx, hf => by
    have hn := (nameL_next _ _ _ _ h).1
    obtain ⟨g, rfl⟩ : ∃ g, f' = g + 1 := ⟨f' - 1, by omega⟩
    unfold nameL at h ⊢
    split at h
    · rename_i hc
      split at h
      · simp at h
      · rename_i c hcl
        simp only [Prod.mk.injEq, and_true] at h
        subst h
        simp only at hx
        rw [E.sign _ (by omega), Nat.add_assoc, E.sign _ (by omega), if_pos hc]
        simp only [Nat.add_assoc]
    · rename_i hc
      have hn2 := (nameL_next _ _ _ _ h).1
      rw [E.sign _ (by omega), Nat.add_assoc, E.sign _ (by omega), if_neg hc, E.eq i (by omega)]
      exact nameL_emb E f (i + 1) _ x g h hx (by omega)
theorem thingTh_emb (E : Emb ere L M d n q) (hu : ∀ i, i < L.length → (markAt L i).b < 256) {at0 b at1 : Nat} {x : Th} (h : thingTh L at0 b = (x, none)) (hx : x.next < n) : thingTh M at1 (d + b) = (⟨x.set, x.b, x.fin, d + x.next⟩, none) := by
  have hL := E.nL
  have hM := E.nM
  have hb := (thingTh_next h hu).1
  have e1 : decide (d + (b + 1) < M.length) = decide (b + 1 < L.length) := by rw [decide_eq_true (by omega), decide_eq_true (by omega)]
  unfold thingTh at h ⊢
  rw [if_neg (by omega)] at h
  rw [if_neg (by omega), Nat.add_assoc, e1, E.sign _ (by omega), E.eq (b + 1) (by omega), E.eq b (by omega)]
  split at h
  · rename_i hc
    rw [if_pos hc]
    unfold nameTh at h ⊢
    exact nameL_emb E _ (b + 2) _ _ _ h (by omega) (by omega)
  · rename_i hc
    rw [if_neg hc]
    split at h
    · rename_i hc2
      rw [if_pos hc2]
      unfold enclosedTh at h ⊢
      have h1 := h
      split at h1
      · simp at h1
      · split at h1
        · simp at h1
        · split at h1
          · simp at h1
          · split at h1
            · simp at h1
            · rename_i n1 n2 n3 n4
              simp only [Prod.mk.injEq, and_true] at h1
              subst h1
              simp only at hx
              rw [if_neg (by omega), Nat.add_assoc, E.sign _ (by omega), if_neg n2, if_neg (by omega), Nat.add_assoc, E.sign _ (by omega), if_neg n4, Nat.add_assoc, E.eq (b + 2) (by omega)]
              simp only [Nat.add_assoc]
    · rename_i hc2
      rw [if_neg hc2]
      simp only [Prod.mk.injEq, and_true] at h
      subst h
      simp only
theorem itemTh_emb (E : Emb ere L M d n q) (hu : ∀ i, i < L.length → (markAt L i).b < 256) {at0 b at1 : Nat} {fst : Bool} {x : Th} (h : itemTh L at0 b fst = (x, none)) (hx : x.next < n) (hx1 : signAt L x.next 45 = true → x.next + 1 < n) : itemTh M at1 (d + b) fst = (⟨x.set, x.b, x.fin, d + x.next⟩, none) := by
  have hL := E.nL
  have hM := E.nM
  unfold itemTh at h ⊢
  cases ha : thingTh L at0 b with
  | mk a o =>
    rw [ha] at h
    cases o with
    | some f => simp at h
    | none =>
      simp only at h
      obtain ⟨hab, haL, _⟩ := thingTh_next ha hu
      split at h
      · split at h <;> simp at h
      · rename_i c1
        split at h
        · rename_i c2
          simp only [Prod.mk.injEq, and_true] at h
          subst h
          rw [thingTh_emb E hu ha hx]
          simp only
          rw [E.sign _ (by omega), Nat.add_assoc, E.sign _ (by omega), if_neg c1, E.sign _ hx]
          cases h45 : signAt L a.next 45 with
          | false => simp
          | true =>
            have := hx1 h45
            rw [Nat.add_assoc, E.sign _ this, show decide (M.length ≤ d + (a.next + 1)) = decide (L.length ≤ a.next + 1) by rw [decide_eq_false (by omega), decide_eq_false (by omega)]]
            rw [h45] at c2
            rw [if_pos c2]
        · rename_i c2
          split at h
          · simp at h
          · rename_i c3
            cases hb2 : thingTh L at0 (a.next + 1) with
            | mk y o2 =>
              rw [hb2] at h
              cases o2 with
              | some f => simp at h
              | none =>
                simp only at h
                obtain ⟨hyb, hyL, _⟩ := thingTh_next hb2 hu
                split at h
                · simp at h
                · rename_i c4
                  simp only [Prod.mk.injEq, and_true] at h
                  subst h
                  simp only at hx hx1
                  rw [thingTh_emb E hu ha (by omega)]
                  simp only
                  rw [E.sign _ (by omega), Nat.add_assoc, E.sign _ (by omega), if_neg c1, E.sign _ (by omega), Nat.add_assoc, E.sign _ (by omega),
                    show decide (M.length ≤ d + (a.next + 1)) = decide (L.length ≤ a.next + 1) by rw [decide_eq_false (by omega), decide_eq_false (by omega)], if_neg c2, if_neg c3, thingTh_emb E hu hb2 hx]
                  simp only
                  rw [if_neg c4]
theorem itemsL_close {L : List Mk} {at0 : Nat} : ∀ (f : Nat) (c : Cls) (i : Nat) (fst : Bool) (r : Cls × Nat), itemsL L at0 f c i fst = .ok r → signAt L r.2 93 = true
  | 0, _, _, _, _, h => by simp [itemsL] at h
  | f + 1, c, i, fst, r, h => by
    unfold itemsL at h
    split at h
    · rename_i hc
      cases h
      simp only [Bool.and_eq_true] at hc
      exact hc.2
    · split at h
      · cases h
      · exact itemsL_close f _ _ _ _ h
theorem sign_both {L : List Mk} {i : Nat} (h1 : signAt L i 93 = true) (h2 : signAt L i 45 = true) : False := by
  simp only [signAt, Bool.and_eq_true, beq_iff_eq] at h1 h2
  omega
theorem itemsL_emb (E : Emb ere L M d n q) (hu : ∀ i, i < L.length → (markAt L i).b < 256) {at0 at1 : Nat} : ∀ (f : Nat) (c : Cls) (i : Nat) (fst : Bool) (r : Cls × Nat) (f' : Nat), itemsL L at0 f c i fst = .ok r → r.2 < n → n < f' + i → itemsL M at1 f' c (d + i) fst = .ok (r.1, d + r.2)
  | 0, _, _, _, _, _, h, _, _ => by simp [itemsL] at h
  | f + 1, c, i, fst, r, f', h, hr, hf => by
    have hi := (itemsL_next hu _ _ _ _ _ h).1
    obtain ⟨g, rfl⟩ : ∃ g, f' = g + 1 := ⟨f' - 1, by omega⟩
    unfold itemsL at h ⊢
    rw [E.sign _ (by omega)]
    split at h
    · rename_i hc
      cases h
      rw [if_pos hc]
    · rename_i hc
      rw [if_neg hc]
      cases hx : itemTh L at0 i fst with
      | mk x o =>
        rw [hx] at h
        cases o with
        | some e => cases h
        | none =>
          simp only at h
          have h1 := itemTh_next hx hu
          have h2 := itemsL_next hu _ _ _ _ _ h
          rw [itemTh_emb E hu (at1 := at1) hx (by omega) (fun h45 => by
            have h3 := itemsL_close _ _ _ _ _ h
            by_cases he : x.next = r.2
            · rw [← he] at h3; exact (sign_both h3 h45).elim
            · omega)]
          simp only
          exact itemsL_emb E hu f _ _ _ _ g h hr (by omega)
theorem bracketL_emb (E : Emb ere L M d n q) (hu : ∀ i, i < L.length → (markAt L i).b < 256) {at0 : Nat} {r : Cls × Nat} (h : bracketL L at0 = .ok r) (hr : r.2 ≤ n) : bracketL M (d + at0) = .ok (r.1, d + r.2) := by
  have hL := E.nL
  have hM := E.nM
  unfold bracketL at h ⊢
  simp only at h ⊢
  split at h
  · cases h
  · rename_i c i hx
    have h1 := itemsL_next hu _ _ _ _ _ hx
    cases h
    simp only at hr h1 ⊢
    have hp : at0 + 1 < n := by split at h1 <;> omega
    rw [Nat.add_assoc, E.sign _ hp]
    have hx' := itemsL_emb E hu (at1 := d + at0) _ _ _ _ _ (M.length + 2) hx (by show i < n; omega) (by split <;> omega)
    have he : (if signAt L (at0 + 1) 94 = true then d + at0 + 2 else d + (at0 + 1)) = d + (if signAt L (at0 + 1) 94 = true then at0 + 2 else at0 + 1) := by split <;> omega
    rw [he, hx']
    rfl

/-! ### Numbers -/
theorem numberL_emb (E : Emb ere L M d n q) : ∀ (f : Nat) (v : Int) (i f' : Nat) (r : Int × Nat), L.length ≤ f + i → M.length ≤ f' + (d + i) → i ≤ L.length → numberL L f v i = r → r.2 < n → numberL M f' v (d + i) = (r.1, d + r.2)
  | 0, v, i, f', r, h1, h2, hi, h, h3 => by
    have := E.nL
    simp only [numberL] at h
    subst h
    simp only at h3
    omega
  | f + 1, v, i, f', r, h1, h2, hiL, h, h3 => by
    have hL := E.nL
    have hM := E.nM
    have hle := numberL_le L (f + 1) v i hiL
    rw [h] at hle
    obtain ⟨g, rfl⟩ : ∃ g, f' = g + 1 := ⟨f' - 1, by omega⟩
    unfold numberL at h ⊢
    rw [if_neg (by omega)] at h
    rw [if_neg (by omega), E.eq i (by omega)]
    split at h
    · rename_i hc
      rw [if_pos hc]
      subst h
      rfl
    · rename_i hc
      rw [if_neg hc]
      exact numberL_emb E f _ (i + 1) g r (by omega) (by omega) (by omega) h h3
theorem numL_emb (E : Emb ere L M d n q) {i : Nat} (hi : i ≤ L.length) (h : (numL L i).2 < n) : numL M (d + i) = ((numL L i).1, d + (numL L i).2) := by
  have hL := E.nL
  have hM := E.nM
  exact numberL_emb E _ _ _ _ _ (by omega) (by omega) hi rfl h
def intB (L : List Mk) (a : Int × Nat) : Int × Nat := if seesAt L a.2 [44] then numL L (a.2 + 1) else a
def intF (ere : Bool) (L : List Mk) (s : Rst) (a b : Int × Nat) : Out (Int × Int) :=
  if decide (a.1 < 0) || decide (255 < a.1) || decide (255 < b.1) || (decide (0 ≤ b.1) && decide (b.1 < a.1)) || !seesAt L b.2 (signB ere 125) then .no 43 s.i
  else .ok (a.1, b.1) ⟨b.2 + wideB ere, s.ended⟩
theorem intervalL_def (ere : Bool) (L : List Mk) (s : Rst) : intervalL ere L s = intF ere L s (numL L (s.i + wideB ere)) (intB L (numL L (s.i + wideB ere))) := rfl
theorem intB_le {L : List Mk} {a : Int × Nat} (h : a.2 ≤ L.length) : a.2 ≤ (intB L a).2 ∧ (intB L a).2 ≤ L.length := by
  unfold intB
  split
  · rename_i h4
    have h5 := seesAt_le (by simp) h4
    simp only [List.length_singleton] at h5
    have h6 := numberL_le L (L.length - (a.2 + 1)) (-1) (a.2 + 1) h5
    change (a.2 + 1 ≤ (numL L (a.2 + 1)).2 ∧ (numL L (a.2 + 1)).2 ≤ _) at h6
    omega
  · exact ⟨Nat.le_refl _, h⟩
theorem intB_emb (E : Emb ere L M d n q) {a : Int × Nat} (ha : a.2 ≤ L.length) (h : (intB L a).2 < n) : intB M (a.1, d + a.2) = ((intB L a).1, d + (intB L a).2) := by
  have h1 := intB_le ha
  have h2 : seesAt M (d + a.2) [44] = seesAt L a.2 [44] := E.sees (by simp only [List.length_singleton]; omega)
  unfold intB at h ⊢
  simp only
  rw [h2]
  split at h
  · rename_i h4
    have h5 := seesAt_le (by simp) h4
    simp only [List.length_singleton] at h5
    rw [if_pos h4, Nat.add_assoc, numL_emb E h5 h]
    rw [if_pos h4]
  · rename_i h4
    rw [if_neg h4, if_neg h4]
theorem intervalL_emb (E : Emb ere L M d n q) {s t : Rst} {r : Int × Int} (en : List Bool) (hs : s.i + wideB ere ≤ L.length) (h : intervalL ere L s = .ok r t) (ht : t.i ≤ q) : intervalL ere M ⟨d + s.i, en⟩ = .ok r ⟨d + t.i, en⟩ := by
  have hw := wideB_pos ere
  have hqn := E.qn
  rw [intervalL_def] at h ⊢
  have h1 := numberL_le L (L.length - (s.i + wideB ere)) (-1) (s.i + wideB ere) hs
  change (s.i + wideB ere ≤ (numL L (s.i + wideB ere)).2 ∧ (numL L (s.i + wideB ere)).2 ≤ L.length) at h1
  have h2 := intB_le h1.2
  have hb : (intB L (numL L (s.i + wideB ere))).2 + wideB ere ≤ q := by
    unfold intF at h
    split at h
    · cases h
    · cases h; exact ht
  have e1 := numL_emb E hs (by omega)
  have e2 := intB_emb E h1.2 (by omega)
  simp only
  rw [Nat.add_assoc, e1, e2]
  generalize intB L (numL L (s.i + wideB ere)) = b at *
  generalize numL L (s.i + wideB ere) = a at *
  unfold intF at h ⊢
  simp only
  rw [E.sees (by rw [signB_length]; omega)]
  split at h
  · cases h
  · rename_i hc
    cases h
    rw [if_neg hc, Nat.add_assoc]
theorem dupL_emb (E : Emb ere L M d n q) {s t : Rst} {x : Nd} (en : List Bool) (hs : repeatsL ere L s.i = true) (h : dupL ere L s = .ok x t) (ht : t.i ≤ q) : dupL ere M ⟨d + s.i, en⟩ = .ok x ⟨d + t.i, en⟩ := by
  have hqn := E.qn
  have hlt := (dupL_adv hs h).lt
  unfold dupL at h ⊢
  simp only at h ⊢
  rw [E.sees (s := [42]) (by simp only [List.length_singleton]; omega), E.sees (s := [43]) (by simp only [List.length_singleton]; omega), E.sees (s := [63]) (by simp only [List.length_singleton]; omega)]
  split at h
  · rename_i c1; cases h; rw [if_pos c1, Nat.add_assoc]
  · rename_i c1
    rw [if_neg c1]
    split at h
    · rename_i c2; cases h; rw [if_pos c2, Nat.add_assoc]
    · rename_i c2
      rw [if_neg c2]
      split at h
      · rename_i c3; cases h; rw [if_pos c3, Nat.add_assoc]
      · rename_i c3
        rw [if_neg c3]
        have hb : seesAt L s.i (signB ere 123) = true := by
          unfold repeatsL at hs
          simp only [c1, c2, c3] at hs
          simpa using hs
        split at h
        · cases h
        · rename_i hi
          cases h
          rw [intervalL_emb E en (seesSign_le hb) hi ht]
end
end Go.Proofs.Ytbdjcmhfcdamiaa
