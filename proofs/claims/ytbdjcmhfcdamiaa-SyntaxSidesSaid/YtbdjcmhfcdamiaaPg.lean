/- Plain laws of Parse: a regex in brackets. -/
import Derived.Test.YtbdjcmhfcdamiaaPe
namespace Go.Proofs.Ytbdjcmhfcdamiaa

theorem sees1 (M : List Mk) (x c : Nat) : seesAt M x [c] = (decide (x < M.length) && (!(markAt M x).p && (markAt M x).b == c)) := by
  rw [seesAt_cons, seesAt_nil, Bool.and_true]
theorem sees2 (M : List Mk) (x c k : Nat) : seesAt M x [c, k] = (decide (x < M.length) && (!(markAt M x).p && (markAt M x).b == c && seesAt M (x + 1) [k])) := seesAt_cons _ _ _ _
/-- Marks in other marks, where a closing sign or a bar stands behind them. -/
theorem emb_end {ere : Bool} {L M : List Mk} {d : Nat} (hM : d + L.length < M.length) (eq : ∀ j, j < L.length → markAt M (d + j) = markAt L j) (hp : (markAt M (d + L.length)).p = false)
    (hb : (ere = true ∧ ((markAt M (d + L.length)).b = 41 ∨ (markAt M (d + L.length)).b = 124)) ∨ (ere = false ∧ (markAt M (d + L.length)).b = 92 ∧ seesAt M (d + L.length + 1) [41] = true ∧ seesAt M (d + L.length + 1) [123] = false)) : Emb ere L M d L.length L.length := by
  have one : ∀ p, p < L.length → ∀ c, seesAt M (d + p) [c] = seesAt L p [c] := fun p hp c => seesAt_emb (Nat.le_refl _) (by omega) eq [c] p (by simp only [List.length_singleton]; omega)
  have oneL : ∀ c, seesAt L L.length [c] = false := fun c => by rw [sees1, decide_eq_false (Nat.lt_irrefl _), Bool.false_and]
  have oneE : ∀ c, ¬ (markAt M (d + L.length)).b = c → seesAt M (d + L.length) [c] = false := fun c hc => by rw [sees1, hp, show ((markAt M (d + L.length)).b == c) = false by simpa using hc]; simp
  have two : ∀ p, p < L.length → ∀ c k, ¬ k = 92 → ere = false → seesAt M (d + p) [c, k] = seesAt L p [c, k] := fun p hpl c k hk he => by
    rw [sees2, sees2, eq p hpl, decide_eq_true (show d + p < M.length by omega), decide_eq_true hpl]
    by_cases h1 : p + 1 < L.length
    · rw [Nat.add_assoc, one (p + 1) h1]
    · have h2 : p + 1 = L.length := by omega
      rw [Nat.add_assoc, h2, oneL, oneE k (by rcases hb with h | h; (have := h.1; rw [he] at this; cases this); (rw [h.2.1]; exact fun e => hk e.symm))]
  refine ⟨Nat.le_refl _, .inr rfl, Nat.le_refl _, by omega, eq, fun p hpq => ?_, fun p hpq hpl => ?_, fun p hpq he => ?_, fun _ => ?_⟩
  · unfold repeatsL
    by_cases hpl : p < L.length
    · rw [one p hpl, one p hpl, one p hpl]
      cases ere with
      | true => rw [show signB true 123 = [123] from rfl, one p hpl]
      | false => rw [show signB false 123 = [92, 123] from rfl, two p hpl _ _ (by decide) rfl]
    · have hpe : p = L.length := by omega
      subst hpe
      rw [oneL, oneL, oneL]
      rcases hb with ⟨rfl, h⟩ | ⟨rfl, h1, h2, h3⟩
      · rw [show signB true 123 = [123] from rfl, oneL, oneE 42 (by omega), oneE 43 (by omega), oneE 63 (by omega), oneE 123 (by omega)]
      · rw [show signB false 123 = [92, 123] from rfl, oneE 42 (by omega), sees2, sees2, h3, decide_eq_false (show ¬ L.length < L.length by omega)]
        simp
  · cases ere with
    | true => exact one p hpl 41
    | false => exact two p hpl 92 41 (by decide) rfl
  · subst he
    by_cases hpl : p < L.length
    · rw [two p hpl _ _ (by decide) rfl, decide_eq_true (show d + p < M.length by omega), decide_eq_true hpl]
    · have hpe : p = L.length := by omega
      subst hpe
      rcases hb with ⟨h, _⟩ | ⟨_, h1, h2, h3⟩
      · cases h
      · rw [decide_eq_false (show ¬ L.length < L.length by omega), sees2, h2, h1, hp, decide_eq_true (show d + L.length < M.length from hM)]
        rfl
  · rcases hb with ⟨rfl, h⟩ | ⟨rfl, h1, h2, h3⟩
    · rcases h with h | h
      · refine .inr (.inr ?_)
        rw [show signB true 41 = [41] from rfl, sees1, hp, h, decide_eq_true hM]
        rfl
      · refine .inr (.inl ?_)
        rw [sees1, hp, h, decide_eq_true hM]
        rfl
    · refine .inr (.inr ?_)
      rw [show signB false 41 = [92, 41] from rfl, sees2, hp, h1, h2, decide_eq_true hM]
      rfl

/-- What is read at the top ends at the end. -/
theorem sidesK_all {ere : Bool} {L : List Mk} (hu : ∀ i, i < L.length → (markAt L i).b < 256) {re : List Nd} {t : Rst} (h : sidesK ere L 64 ⟨0, []⟩ = .ok re t) : t.i = L.length := by
  have h1 := (sidesK_rise hu 64 (by simp) h).le
  rcases sidesK_stop 64 h with h2 | ⟨_, h2⟩
  · omega
  · exact absurd h2 (by decide)

def signM (ere : Bool) (c : Nat) : List Mk := (signB ere c).map fun b => ⟨b, false⟩
theorem signM_length (ere : Bool) (c : Nat) : (signM ere c).length = wideB ere := by simp [signM, signB_length]
/-- A regex in brackets, as marks, and its tree. -/
def wrapM (ere : Bool) (L : List Mk) : List Mk := signM ere 40 ++ L ++ signM ere 41
def wrapN (re : List Nd) : List Nd := groupN 1 :: re.map (sh 1)
theorem wrapM_length (ere : Bool) (L : List Mk) : (wrapM ere L).length = wideB ere + L.length + wideB ere := by rw [wrapM, List.length_append, List.length_append, signM_length, signM_length]
theorem wrapM_at (ere : Bool) (L : List Mk) (j : Nat) (h : j < L.length) : markAt (wrapM ere L) (wideB ere + j) = markAt L j := by
  unfold markAt wrapM
  rw [List.getD_eq_getElem?_getD, List.getD_eq_getElem?_getD, List.append_assoc, List.getElem?_append_right (by rw [signM_length]; omega), signM_length, show wideB ere + j - wideB ere = j by omega, List.getElem?_append_left h]
theorem wrapM_end (ere : Bool) (L : List Mk) (j : Nat) : markAt (wrapM ere L) (wideB ere + L.length + j) = markAt (signM ere 41) j := by
  unfold markAt wrapM
  rw [List.getD_eq_getElem?_getD, List.getD_eq_getElem?_getD, List.getElem?_append_right (by rw [List.length_append, signM_length]; omega), List.length_append, signM_length, show wideB ere + L.length + j - (wideB ere + L.length) = j by omega]
theorem wrapM_emb (ere : Bool) (L : List Mk) : Emb ere L (wrapM ere L) (wideB ere) L.length L.length := by
  have hw := wideB_pos ere
  have hl := wrapM_length ere L
  have h0 := wrapM_end ere L 0
  have h1 := wrapM_end ere L 1
  rw [Nat.add_zero] at h0
  refine emb_end (by omega) (wrapM_at ere L) (by rw [h0]; cases ere <;> rfl) ?_
  cases ere with
  | true => exact .inl ⟨rfl, .inl (by rw [h0]; rfl)⟩
  | false => exact .inr ⟨rfl, by rw [h0]; rfl, by rw [sees1, h1, hl, decide_eq_true (by show 2 + L.length + 1 < 2 + L.length + 2; omega)]; rfl, by rw [sees1, h1, hl, decide_eq_true (by show 2 + L.length + 1 < 2 + L.length + 2; omega)]; rfl⟩
theorem wrapM_head (ere : Bool) (L : List Mk) (j : Nat) (h : j < wideB ere) : markAt (wrapM ere L) j = markAt (signM ere 40) j := by
  unfold markAt wrapM
  rw [List.getD_eq_getElem?_getD, List.getD_eq_getElem?_getD, List.append_assoc, List.getElem?_append_left (by rw [signM_length]; omega)]
theorem sees_past (M : List Mk) (x : Nat) (c : Nat) (s : List Nat) (h : M.length ≤ x) : seesAt M x (c :: s) = false := by
  rw [seesAt_cons, decide_eq_false (by omega), Bool.false_and]
theorem repeats_past (ere : Bool) (M : List Mk) (x : Nat) (h : M.length ≤ x) : repeatsL ere M x = false := by
  unfold repeatsL signB
  rw [sees_past _ _ _ _ h, sees_past _ _ _ _ h, sees_past _ _ _ _ h]
  cases ere <;> simp [sees_past _ _ _ _ h]
/-- What the reader does at the bracket. -/
theorem wrap_row (ere : Bool) (L : List Mk) (grp : Rst → Out (List Nd)) (f : Nat) : rowL ere true (wrapM ere L) grp (f + 1) [] 0 true ⟨0, []⟩ = match grp ⟨0, []⟩ with
    | .no e i => .no e i
    | .ok re t => if repeatsL ere (wrapM ere L) t.i then (match dupL ere (wrapM ere L) t with
        | .no e i => .no e i
        | .ok d u => rowL ere true (wrapM ere L) grp f (d :: re) 1 ((re.getD 0 Nd.zero).op == 2) u)
      else rowL ere true (wrapM ere L) grp f re 1 ((re.getD 0 Nd.zero).op == 2) t := by
  have hw := wideB_pos ere
  have hl := wrapM_length ere L
  have h0 := wrapM_head ere L 0 hw
  have s1 : ∀ c, ¬ c = (if ere then 40 else 92) → seesAt (wrapM ere L) 0 [c] = false := fun c hc => by
    rw [sees1, h0]
    cases ere <;> simp only [signM, signB, markAt] <;> simp <;> intro _ <;> (intro e; exact hc (by simpa using e.symm))
  have s2 : ere = false → ∀ c k, ¬ k = 40 → seesAt (wrapM ere L) 0 [c, k] = false := fun he c k hk => by
    subst he
    have h1 := wrapM_head false L 1 (by decide)
    rw [sees2, sees1, h1]
    have : ((markAt (signM false 40) 1).b == k) = false := by simp only [signM, signB, markAt]; simp; exact fun e => hk e.symm
    rw [this]
    simp
  have hcl : seesAt (wrapM ere L) 0 (signB ere 41) = false := by
    cases ere with
    | true => exact s1 41 (by decide)
    | false => exact s2 rfl 92 41 (by decide)
  have hrp : repeatsL ere (wrapM ere L) 0 = false := by
    unfold repeatsL
    cases ere with
    | true => rw [s1 42 (by decide), s1 43 (by decide), s1 63 (by decide), show signB true 123 = [123] from rfl, s1 123 (by decide)]; rfl
    | false => rw [s1 42 (by decide), show signB false 123 = [92, 123] from rfl, s2 rfl 92 123 (by decide)]; rfl
  have hat : atomL ere true (wrapM ere L) grp ⟨0, []⟩ = withTrue (grp ⟨0, []⟩) := by
    unfold atomL
    simp only [h0]
    cases ere with
    | true => rfl
    | false =>
      have h1 := wrapM_head false L 1 (by decide)
      have hp : (markAt (signM false 40) 0).p = false := rfl
      have hb : (markAt (signM false 40) 0).b = 92 := rfl
      rw [hp, hb, if_neg (by decide), if_neg (by decide), if_neg (by decide), if_pos rfl]
      unfold escapeL
      simp only
      rw [if_neg (by rw [hl]; show ¬ 0 + 1 = 2 + L.length + 2; omega), Nat.zero_add, h1, if_neg (by decide), if_pos (by decide)]
  rw [rowL]
  simp only
  rw [if_neg (by omega), s1 124 (by cases ere <;> decide), Bool.and_false, if_neg (by decide), hcl, if_neg (by decide), hrp, Bool.false_and, if_neg (by decide), show ((0 : Nat) == 0) = true from rfl, hat]
  cases grp ⟨0, []⟩ with
  | no e i => rfl
  | ok re t =>
    simp only [withTrue, Bool.true_and, List.nil_append, Nat.zero_add]
    rfl
/-- The reader over a regex in brackets. -/
theorem sidesK_wrap {ere : Bool} {L : List Mk} (hu : ∀ i, i < L.length → (markAt L i).b < 256) {re : List Nd} {t : Rst} (h : sidesK ere L 64 ⟨0, []⟩ = .ok re t) (hn : NR 1 re) :
    (∃ u, sidesK ere (wrapM ere L) 64 ⟨0, []⟩ = .ok (wrapN re) u) ∨ ((∃ e i, sidesK ere (wrapM ere L) 64 ⟨0, []⟩ = .no e i) ∧ NTr 0 (wrapN re) []) := by
  have hw := wideB_pos ere
  have hl := wrapM_length ere L
  have E := wrapM_emb ere L
  have ht := sidesK_all hu h
  have hrow : ∀ (s : Rst) (r : Nat × List Nd) (t : Rst), ([false] ++ s.ended).length ≤ 255 → s.i ≤ L.length → rowS ere true L (groupL ere L 64) s = .ok r t → t.i ≤ L.length → NR 1 r.2 →
      rowS ere false (wrapM ere L) (groupL ere (wrapM ere L) 63) ⟨wideB ere + s.i, [false] ++ s.ended⟩ = .ok (r.1, r.2.map (sh 1)) ⟨wideB ere + t.i, [false] ++ t.ended⟩ ∨ (Lim True (rowS ere false (wrapM ere L) (groupL ere (wrapM ere L) 63) ⟨wideB ere + s.i, [false] ++ s.ended⟩) ∧ NTrs 1 r.1 (r.2.map (sh 1)) ([false] ++ s.ended)) :=
    fun s r t hl2 hsL hr ht hn =>
      rowL_emb E hu (pre := [false]) (p := 1) (X := True) (g := 1) (grp' := groupL ere (wrapM ere L) 63) rfl (F := 4 * 63) (fun _ => rfl) (fun _ _ => rfl) (fun s re t => groupL_adv hu 64 s re t)
        (fun s re t hl hs hg ht hn => (groupL_emb E hu (pre := [false]) (p := 1) rfl 64 63 (by omega) (Nat.le_refl _) s re t hl hs hg ht hn).imp id fun ⟨⟨_, h⟩, h2⟩ => ⟨⟨trivial, h⟩, h2⟩) (fun s re t hs hg => groupL_adv2 hu 64 hs hg)
        (fun s re t hl hg => groupL_tree 63 (by omega) s re t hl hg) _ _ _ _ s r t ((wrapM ere L).length + 1) hr hsL ht hn (by omega) hl2 (Trs.nil _ _ _)
  have hse := sidesL_emb E (pre := [false]) (p := 1) (X := True) (g := 1) (F := 4 * 63) (a0 := [false]) (row := rowS ere true L (groupL ere L 64)) (row' := rowS ere false (wrapM ere L) (groupL ere (wrapM ere L) 63)) (fun s r t h0 h => rowS_rise hu 64 h0 h) hrow
    (fun s r t hl hr => rowL_tree (fun s re t => groupL_tree 63 (by omega) s re t) s.ended _ _ _ _ _ _ _ hl (Trs.nil _ _ _) hr)
    (L.length + 1) [] 0 ⟨0, []⟩ re t ((wrapM ere L).length + 1) h (by simp) (by omega) hn (fun _ => by
      rw [ht, sees1]
      have h0 := wrapM_end ere L 0
      rw [Nat.add_zero] at h0
      rw [h0]
      cases ere with
      | true => rw [show ((markAt (signM true 41) 0).b == 124) = false from rfl]; simp
      | false => rfl) (by simp only; omega) (by simp) (Trs.nil _ _ _)
  simp only [List.map_nil, Nat.add_zero, List.append_nil] at hse
  have hg : groupL ere (wrapM ere L) 64 ⟨0, []⟩ = match sidesL ere (wrapM ere L) (rowS ere false (wrapM ere L) (groupL ere (wrapM ere L) 63)) ((wrapM ere L).length + 1) [] 0 ⟨wideB ere, [false]⟩ with
      | .no e i => .no e i
      | .ok re t => if t.i = (wrapM ere L).length then .no 41 0 else .ok (groupN 1 :: re) ⟨t.i + wideB ere, t.ended.set 0 true⟩ := by
    rw [groupL, if_neg (by decide)]
    simp only [Nat.zero_add, List.nil_append, List.length_nil]
    rfl
  have hK : sidesK ere (wrapM ere L) 64 ⟨0, []⟩ = sidesL ere (wrapM ere L) (rowS ere true (wrapM ere L) (groupL ere (wrapM ere L) 64)) ((wrapM ere L).length + 1) [] 0 ⟨0, []⟩ := rfl
  have hR : rowS ere true (wrapM ere L) (groupL ere (wrapM ere L) 64) ⟨0, []⟩ = rowL ere true (wrapM ere L) (groupL ere (wrapM ere L) 64) ((wrapM ere L).length + 1) [] 0 true ⟨0, []⟩ := rfl
  rcases hse with hse | ⟨⟨_, e, j, hse, he⟩, hno⟩
  · refine .inl ⟨⟨wideB ere + L.length + wideB ere, (([false] ++ t.ended).set 0 true)⟩, ?_⟩
    rw [hse] at hg
    simp only at hg
    rw [if_neg (by omega), ht] at hg
    rw [hK, sidesL, hR, wrap_row, hg]
    simp only
    rw [repeats_past _ _ _ (by omega), if_neg (by decide)]
    obtain ⟨f, hf⟩ : ∃ f, (wrapM ere L).length = f + 1 := ⟨(wrapM ere L).length - 1, by omega⟩
    rw [hf, rowL, if_pos (by simp only; omega)]
    simp only
    rw [sees_past _ _ _ _ (by omega), Bool.and_false]
    rfl
  · refine .inr ⟨⟨e, j, ?_⟩, ?_⟩
    · rw [hse] at hg
      simp only at hg
      rw [hK, sidesL, hR, wrap_row, hg]
    · exact NTr.group hno
theorem parseL_of_ok {ere : Bool} {L : List Mk} {re : List Nd} {t : Rst} (h0 : 0 < L.length) (h1 : L.length ≤ 4096) (h : sidesK ere L 64 ⟨0, []⟩ = .ok re t) : parseL ere L = if shapedN re then .ok re else .error (48, L.length) := by
  obtain ⟨wt, hwt⟩ := weighN_of_nodeN re _ _ _ _ _ _ (sidesK_top h)
  have hs : shapedN re = decide (wt ≤ 16384) := by
    rw [shapedN, sidesK_top h]
    simp only [hwt, decide_true, Bool.true_and]
  unfold parseL
  rw [if_neg (by omega), if_neg (by omega), h]
  simp only
  rw [hwt, hs]
  simp only
  by_cases hw : 16384 < wt
  · rw [if_pos hw, if_neg (by simp; omega)]
  · rw [if_neg hw, if_pos (by simp; omega)]
theorem NTr.unshaped {re : List Nd} (h : NTr 0 re []) : shapedN re = false := by
  have := h 260 [] []
  simp only [List.nil_append, List.append_nil, List.length_nil] at this
  rw [shapedN, this]
/-- A regex without references in brackets is the group 1 of it, if that is within the limits; else it is refused. -/
theorem parseL_wrap {ere : Bool} {L : List Mk} (hu : ∀ i, i < L.length → (markAt L i).b < 256) {re : List Nd} (h : parseL ere L = .ok re) (hn : NR 1 re) :
    parseL ere (wrapM ere L) = .ok (wrapN re) ∧ (wrapM ere L).length ≤ 4096 ∧ shapedN (wrapN re) = true ∨ ((∃ e i, parseL ere (wrapM ere L) = .error (e, i)) ∧ (4096 < (wrapM ere L).length ∨ shapedN (wrapN re) = false)) := by
  obtain ⟨h0, h1, t, w, h2, h3, h4⟩ := parseL_ok h
  have hl := wrapM_length ere L
  by_cases hlong : 4096 < (wrapM ere L).length
  · right
    exact ⟨⟨2, 4096, by rw [parseL, if_pos hlong]⟩, .inl hlong⟩
  · rcases sidesK_wrap hu h2 hn with ⟨u, hk⟩ | ⟨⟨e, i, hk⟩, hno⟩
    · have := parseL_of_ok (by omega) (by omega) hk
      cases hs : shapedN (wrapN re) with
      | true => rw [hs, if_pos rfl] at this; exact .inl ⟨this, by omega, rfl⟩
      | false => rw [hs, if_neg (by decide)] at this; exact .inr ⟨⟨_, _, this⟩, .inr rfl⟩
    · right
      refine ⟨⟨e, i, ?_⟩, .inr hno.unshaped⟩
      rw [parseL, if_neg (by omega), if_neg (by omega), hk]
end Go.Proofs.Ytbdjcmhfcdamiaa
