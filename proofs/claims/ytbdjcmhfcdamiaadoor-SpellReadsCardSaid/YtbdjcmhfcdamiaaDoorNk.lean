/- SpellReads: whatever the input, the law returns true, and its arguments read as they did; the tables of Go's library and of the program start as the program's text lays them (the card ties them). No other condition. -/
import Derived.Test.YtbdjcmhfcdamiaaDoorQ27
import Derived.Test.YtbdjcmhfcdamiaaDoorQ28
import Derived.Test.YtbdjcmhfcdamiaaDoorRows
import Derived.Test.YtbdjcmhfcdamiaaDoorTie
import Derived.Test.YtbdjcmhfcdamiaaDoorCards
import Derived.ProofKit
import Derived.ShutString
import Derived.ChangeOld
import Derived.SizedLaws
import Derived.LaidMore
import Derived.OpenShut
import Derived.Stop.Joined
import Derived.Stop.LaidErr
import Derived.Lib.LaidTab
import Derived.Lib.SmallJoins
namespace Go.Proofs.YtbdjcmhfcdamiaaDoor.spellReadsDone
open Go.ChangeShapes Go.WideShapes Go.ChangeAt Go.RowKit Go.Joins Go.WideMaps Go.WideElems Go.Deep

theorem own : ownKnob Tryd.prog.godebug = none := by kernel_rfl
theorem laidOut : laidOutB Tryd.prog = true := by kernel_rfl
theorem bytes_m : Tryd.prog.bytesOf 33 = 2 := by kernel_rfl
theorem bytes_u : Tryd.prog.bytesOf 5 = 1 := by kernel_rfl
theorem door_met (os : Os) (args : Array Value) : laidMetH Tryd.prog lst4 ((World.doorLaid Tryd.prog 400 os).forCall (fun _ _ => 0) ⟨#[], args, []⟩).memory :=
  laidMetH_of_parts3 (fuel := 8) (laidMet_of_run' 8 (by kernel_rfl) (by kernel_rfl)) (by kernel_rfl) (by kernel_rfl)
section
variable {H : Type} {enc : TypeId × Value → H} {w : World} {spare : Nat → Bool} {held : Bool}
theorem open_bytes {t : TypeId} {n : Nat} {v : Value} {x : DataW H × List MemPlace} (ht : Tryd.prog.underlying t = some (.slice 5)) (h : DataW.trod enc Tryd.prog w 0 spare held n t [v] = some x) :
    ∃ oa l cap, v = .slice oa l.length cap ∧ (oa = none → cap = 0) ∧ (l.length ≤ 4294967296 → BtIn w oa l) ∧ (l.length = 0 ∨ ∃ el sp, x.1 = .slice el sp ∧ el.length = l.length) := by
  rcases open_slice1 ht (by kernel_rfl) h with ⟨h0, _⟩ | ⟨a, len, cap, m, n', V, D, Pl, hcs, hb, hl, hm, hmm, hx, hi⟩
  · simp only [List.cons.injEq, and_true] at h0
    exact ⟨none, [], 0, h0, fun _ => rfl, fun hz => ⟨hz, fun h => absurd h (by simp)⟩, .inl rfl⟩
  · simp only [List.cons.injEq, and_true] at hcs
    have hlm : len ≤ m := by rw [hmm]; split <;> omega
    obtain ⟨f, hf⟩ := choose_lt (α := Nat) (n := len) (p := fun i q => q < 256 ∧ w.cell? (a.add i) = some (.int .u8 (q : Nat))) (fun i hil => by
      obtain ⟨hc, ht'⟩ := hi i (by omega)
      obtain ⟨q, hq, _, wq⟩ := DataW.trod_int Tryd.underlying5 ht'
      simp only [List.cons.injEq, and_true] at hq
      have hba := bounds_u8 wq
      exact ⟨q.toNat, by omega, by rw [hc, hq, show ((q.toNat : Nat) : Int) = q by omega]⟩)
    have hL : ((List.range len).map f).length = len := by simp
    refine ⟨some a, (List.range len).map f, cap, by rw [hL]; exact hcs, fun h => (by cases h), fun hz => ⟨hz, fun hp => ?_⟩, .inr ⟨_, _, by rw [hx], by simp⟩⟩
    rw [hL] at hp
    obtain ⟨b, off, spot⟩ := a
    have c0 := (hf 0 hp).2
    have hspot : spot = none := by simpa [Addr.add] using World.cell?_spot c0
    subst hspot
    have hadd : ∀ k, (⟨b, off, none⟩ : Addr).add k = ⟨b, off + k, none⟩ := fun k => by unfold Addr.add; split <;> simp_all
    refine ⟨b, off, rfl, cell_lt c0, fun i q hq => ?_⟩
    obtain ⟨hil, rfl⟩ := List.getElem?_eq_some_iff.1 hq
    have h1 := (hf i (by simpa using hil)).2
    rw [hadd] at h1
    simpa using h1
end
theorem MkV.toIn {w : World} {oa : Option Addr} {cap : Nat} {L : List Mk} (h : MkV w oa cap L) (hl : L.length ≤ 1073741823) : MkIn w oa L :=
  ⟨by omega, fun hp => by
    obtain ⟨mb, mo, h1, h2, h3⟩ := h.at_ hp
    refine ⟨mb, mo, h1, h2, fun i m hm => ?_⟩
    obtain ⟨hi, rfl⟩ := List.getElem?_eq_some_iff.1 hm
    have e : markAt L i = L[i] := by simp [markAt, List.getD_eq_getElem?_getD, hi]
    have := h3 i hi
    have hu := h.u i hi
    rw [e] at this hu
    exact ⟨this.1, this.2, hu⟩⟩
set_option maxRecDepth 100000 in
theorem lifted (os : Os) (started : os.Started) (H : Type) (enc : TypeId × Value → H) :
    ReturnsInHanded {} Tryd.checked os 4 .any (fun w args => (Rows.spellReadsSpec.pre enc Tryd.prog Tryd.f4 [] false w args ∧ laidMetH Tryd.prog lst4 w) ∧ sizedMet enc Tryd.prog Tryd.f4 (OpenSpec.ofChange Rows.spellReadsSpec) false w args)
      (Rows.spellReadsSpec.post enc Tryd.prog Tryd.f4 false true false false) := by
  refine returnsInHanded_of_change_and (C := Tryd.checked) (X := fun w _ => laidMetH Tryd.prog lst4 w) (fun _ _ _ hh h => h.of_heap hh) own started (by kernel_rfl) Tryd.func4
    (ChangeSpec.witness_shaped (enc := enc) (C := Tryd.checked) (os := os) (X := fun w _ => laidMetH Tryd.prog lst4 w) false (World.doorLaid Tryd.prog 400 os) #[.agg #[.slice none 0 0, .slice none 0 0, .int .u8 0, .slice none 0 0]] 8 rfl (World.shaped_of_RefB (by kernel_rfl) (by kernel_rfl)) (by kernel_rfl) (by kernel_rfl) (by kernel_rfl) (door_met os _)) ?_
  intro W base args ds gs before hval0 hW hcnd hsz0 hL _
  have hsz : (DataW.weightsEach Tryd.prog (Tryd.f4.params.toList ++ Rows.spellReadsSpec.plain.varTypes Tryd.prog) (ds ++ gs)).all (· ≤ reachBytes) = true := hsz0
  have hval : ∀ (j : Nat) t v, Tryd.f4.params[j]? = some t → args[j]? = some v → Value.okWide Tryd.prog W .any base t v := hval0
  have hW' := hW
  obtain ⟨p, q, hA0, hV, rfl, hfz, hnd⟩ := hW
  have hA : DataW.TrodAll enc Tryd.prog W 0 (fun _ => true) true Tryd.f4.params.toList args.toList ds p := hA0
  rw [Tryd.params4] at hA hval hsz
  obtain ⟨v0, vs0, d0, ds0, p0, q0, hargs, rfl, rfl, h0, r0⟩ := trodAll_cons hA
  obtain ⟨rfl, rfl, rfl⟩ := trodAll_nil r0
  obtain rfl : args = #[v0] := by cases args; simp_all
  obtain ⟨rfl, rfl⟩ := trodVars_none hV
  have k0 := h0
  have lt0 : ∀ x ∈ p0, x.block < W.heap.size := by obtain ⟨m, hm⟩ := k0; exact DataW.trod_lt m _ _ _ hm
  obtain ⟨c0, c1, c2, c3, y0, y1, y2, y3, n, rfl, hd, hp, g0, g1, g2, g3⟩ := open_agg4 Tryd.underlying60 (by kernel_rfl) (by kernel_rfl) (hval 0 60 v0 rfl rfl) h0
  obtain ⟨oa, L, ca, rfl, m0⟩ := open_marks Tryd.underlying22 g0
  obtain ⟨_, hL0, _, s0⟩ := read_marks (d := y0.1) (p := y0.2) Tryd.underlying22 ⟨n, g0⟩ rfl
  obtain ⟨ob, M, cb, rfl, m1⟩ := open_marks Tryd.underlying22 g1
  obtain ⟨_, hL1, _, s1⟩ := read_marks (d := y1.1) (p := y1.2) Tryd.underlying22 ⟨n, g1⟩ rfl
  obtain ⟨d, hc2, _, w2⟩ := DataW.trod_int Tryd.underlying5 g2
  obtain ⟨oc, X, cc, rfl, hcc, m3, s3⟩ := open_bytes Tryd.underlying26 g3
  rw [hL0] at s0
  rw [hL1] at s1
  simp only [List.cons.injEq, and_true] at hc2
  subst hc2
  have hsz2 : (DataW.weightsEach Tryd.prog [22, 22, 5, 26] [y0.1, y1.1, y2.1, y3.1]).all (· ≤ reachBytes) = true := by
    have h := hsz
    rw [hd] at h
    simp only [List.nil_append, List.cons_append, List.append_nil, DataW.weightsEach, DataW.weights, Tryd.underlying60, List.all_append, Bool.and_eq_true] at h
    exact h.1
  have z0 : L.length * 2 ≤ 140737488351232 := by
    rcases s0 with s | ⟨el, sp, hd, hl⟩
    · omega
    · have := sized_slice hsz2 (j := 0) (t := 22) (e := 33) rfl (by rw [← hd]; rfl) Tryd.underlying22
      rw [bytes_m] at this
      simp only [reachBytes] at this
      omega
  have z1 : M.length * 2 ≤ 140737488351232 := by
    rcases s1 with s | ⟨el, sp, hd, hl⟩
    · omega
    · have := sized_slice hsz2 (j := 1) (t := 22) (e := 33) rfl (by rw [← hd]; rfl) Tryd.underlying22
      rw [bytes_m] at this
      simp only [reachBytes] at this
      omega
  have z3 : X.length ≤ 140737488351232 := by
    rcases s3 with s | ⟨el, sp, hd, hl⟩
    · omega
    · have := sized_slice hsz2 (j := 3) (t := 26) (e := 5) rfl (by rw [← hd]; rfl) Tryd.underlying26
      rw [bytes_u] at this
      simp only [reachBytes] at this
      omega
  have hba := bounds_u8 w2
  obtain ⟨dn, rfl⟩ : ∃ dn : Nat, d = (dn : Int) := ⟨d.toNat, by omega⟩
  clear hA0 hval0 hsz0
  refine (reads_all (ca := ca) (cb := cb) dn (by omega) (by omega) (by omega) (by omega) (fun hl => MkV.toIn m0 hl) (fun hl => MkV.toIn m1 hl) (fun hl => m3 (by omega)) hcc (tabs_of hL)).mono fun e W' ⟨he, bel⟩ => ?_
  subst he
  exact ⟨_, rfl, _, _, _, [], _, [], hW', trodAll_mk1 (shut_bool Tryd.underlying4 _), (trodAll_cons_mk (Below.trod laidOut (by kernel_rfl) (of_decide_eq_true (by kernel_rfl)) k0 bel lt0) trodAll_mk0), rfl, bel.frame _, fun h => by cases h⟩
theorem over : Rows.SpellReadsSaid :=
  OpenClaim.holds_of_wide 4 Tryd.f4 rfl rfl rfl rfl rfl rfl rfl ⟨rfl, rfl, rfl, rfl, rfl⟩ rfl rfl rfl rfl rfl (by kernel_rfl) Tryd.func4 (by kernel_rfl)
    (of_decide_eq_true (by kernel_rfl)) (by unfold Func.isWrapper; first | (rw [if_pos (by decide +kernel)]; kernel_rfl) | (rw [if_neg (by decide +kernel)]; exact ⟨rfl, rfl⟩))
    (fun os started H enc _ => lifted os started H enc)
/-- The statement: the card. -/
theorem proved : Rows.SpellReadsCardSaid :=
  Claim7.holds_tied_plain_at .later [] [.data, .data, .data, .data] true (true, "e6516a3c3c72f3f76381ec8d47c9d33bb87ee534fc7c5f7edcca3c234f460882") true
    over (fun _ h => by cases h) (by kernel_rfl) (fun _ h => by cases h) spellReads_row_tie rfl ⟨rfl, rfl⟩ (by kernel_rfl) rfl
    (fun f fn hf hfn => by
      obtain rfl : f = 4 := Option.some.inj ((show Tryd.prog.funcNamed "galley/galleylaw06.SpellReads" = some 4 by kernel_rfl).symm.trans hf) |>.symm
      obtain rfl : fn = Tryd.f4 := (Option.some.inj (Tryd.func4.symm.trans hfn)).symm
      exact ⟨by kernel_rfl, fun j t ht => by
        rw [Tryd.params4] at ht
        have hm : t ∈ [60] := by simpa using Array.mem_of_getElem? ht
        have hall : ([60].all fun u => !Tryd.prog.wantsStandIn u) = true := by kernel_rfl
        exact (show Tryd.prog.wantsStandIn t = false by simpa using List.all_eq_true.1 hall t hm)⟩)
    (by kernel_rfl)
#print axioms proved
end Go.Proofs.YtbdjcmhfcdamiaaDoor.spellReadsDone
