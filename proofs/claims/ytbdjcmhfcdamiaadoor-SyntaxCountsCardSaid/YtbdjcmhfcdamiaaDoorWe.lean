/- Contract of the reader's name. -/
import Derived.Test.YtbdjcmhfcdamiaaDoorWd
namespace Go.Proofs.YtbdjcmhfcdamiaaDoor
open Go.RowKit

set_option maxRecDepth 100000 in
set_option maxHeartbeats 1600000 in
theorem name_any {rb mb mo cap : Nat} {L : List Mk} {at0 : Nat} {w : World} (h : Br w rb mb mo cap L at0) {b : Int} (n : Nat) (hbi : b = n) (hn : n + 1 < L.length) :
    Calls Tryd.prog 125 #[.pointer (some ⟨rb, 0, none⟩), .int .i64 b] w (ThRet (nameTh L at0 n) w) := by
  subst hbi
  have hL := h.m.len
  have hrb := h.lt
  go_enter Tryd.func125, Tryd.ntmps125
  go_wp2_with fail
  go_loopw [6, 7] (fun v i wr => ∃ (k : Nat) (s : List Nat), n + 2 ≤ k ∧ k ≤ L.length ∧ i = .int .i64 k ∧ wr.ownsRow (w.heap.size + 1) 5 1 v s.length (u8s s) ∧ s.length ≤ k ∧ (∀ b ∈ s, b < 256) ∧
      Hid (nameTh L at0 n = nameL L at0 n (L.length - k) k s) ∧ thAt wr w.heap.size Th.zero ∧ Below w.heap.size w wr) (fun _ i _ => L.length - (intOf i).toNat)
  case atStart => exact ⟨n + 2, [], by omega, by omega, by go_num, World.ownsRow_nil _ _ _ _, by simp, by simp, rfl, heap_alloc_new w _, (by repeat (first | exact Below.refl _ _ | assumption | refine Below.drew ?_ | refine Below.alloc ?_ (by first | (simp; done) | (simp; omega) | omega) _ | refine Below.setCell ?_ (by first | (simp; done) | (simp; omega) | omega) _))⟩
  case round =>
    obtain ⟨k, s, hk0, hk, rfl, hown, hsl, hs256, HS, hz, hbe⟩ := hrel
    have hr := h.below hbe
    have c0 := hr.c0
    have hrb' := hr.lt
    have HZ := Lib.hid hz
    by_cases hlt : k < L.length
    · have hm1 := hr.m.b k hlt
      have hu := hr.m.u k hlt
      have hmb := hr.m.lt
      have hno : (signAt L k 58 && signAt L (k + 1) 93) = false ∨ (signAt L k 58 = true ∧ signAt L (k + 1) 93 = true) := by cases signAt L k 58 <;> cases signAt L (k + 1) 93 <;> simp
      rcases hno with hno | ⟨e1, e2⟩
      · have HON := Lib.hid (name_on (at0 := at0) (b0 := n) (n := L.length - (k + 1)) (s := s) hno)
        have hcase : (signAt L k 58 = false) ∨ (signAt L k 58 = true ∧ signAt L (k + 1) 93 = false) := by cases h1 : signAt L k 58 <;> simp_all
        clear hno
        have hsz := hz.lt
        clear hz
        rcases hcase with e1 | ⟨e1, e2⟩
        · go_wp2_with fail
          refine (bsign_any hr k 58 (by omega) rfl).mono ?_; rintro e w1 ⟨rfl, rfl⟩
          go_wp2_with (at_builtin; refine wpList_app elU8 rfl _ _ rfl (w.heap.size + 1) rfl (hown.alloc _) rfl (Src.new wr [.int .u8 ((markAt L k).b : Nat)] _ _ _) rfl (by simp [Value.oneCell']) (by unfold maxLen; omega) (by omega) (by simp; omega) ?_)
          intro v1 w1 hown1 hgr _
          have hb1 : Below (w.heap.size + 1) wr w1 := Below.grown (Below.alloc (Below.refl _ _) (by omega) _) hgr (by simp; omega) (fun k hk => (hown.lt k hk).1)
          have hz1 : thAt w1 w.heap.size Th.zero := (hb1.block _ (by omega)).trans HZ.out
          have hown2 : w1.ownsRow (w.heap.size + 1) 5 1 v1 (s ++ [(markAt L k).b]).length (u8s (s ++ [(markAt L k).b])) := by simpa [u8s] using hown1
          have hr256 : ∀ b ∈ s ++ [(markAt L k).b], b < 256 := by
            intro b hb
            rcases List.mem_append.1 hb with hb | hb
            · exact hs256 b hb
            · simp at hb; omega
          have HF := Lib.hid (show n + 2 ≤ k + 1 ∧ k + 1 ≤ L.length ∧ w1.ownsRow (w.heap.size + 1) 5 1 v1 (s ++ [(markAt L k).b]).length (u8s (s ++ [(markAt L k).b])) ∧ (s ++ [(markAt L k).b]).length ≤ k + 1 ∧ (∀ b ∈ s ++ [(markAt L k).b], b < 256) ∧
            Hid (nameTh L at0 n = nameL L at0 n (L.length - (k + 1)) (k + 1) (s ++ [(markAt L k).b])) ∧ thAt w1 w.heap.size Th.zero ∧ Below w.heap.size w w1 from
            ⟨by omega, by omega, hown2, by simp; omega, hr256, HS.out.trans ((congrArg (fun m => nameL L at0 n m k s) (show L.length - k = L.length - (k + 1) + 1 by omega)).trans HON.out), hz1, hbe.trans (hb1.mono (by omega))⟩)
          clear hown hown1 hown2 hgr hb1 hz1 hr256 hs256 c0 hm1 hr HS HON HZ hbe
          go_wp2_with fail
          obtain ⟨f1, f2, f3, f4, f5, f6, f7, f8⟩ := HF.out
          go_roundw
          case rel => exact ⟨k + 1, _, f1, f2, by go_num, f3, f4, f5, f6, f7, f8⟩
          case measure => simp [intOf]; omega
        · go_wp2_with fail
          refine (bsign_any hr k 58 (by omega) rfl).mono ?_; rintro e w1 ⟨rfl, rfl⟩
          go_wp2_with fail
          refine (bsign_any hr (k + 1) 93 (by omega) rfl).mono ?_; rintro e w1 ⟨rfl, rfl⟩
          go_wp2_with (at_builtin; refine wpList_app elU8 rfl _ _ rfl (w.heap.size + 1) rfl (hown.alloc _) rfl (Src.new wr [.int .u8 ((markAt L k).b : Nat)] _ _ _) rfl (by simp [Value.oneCell']) (by unfold maxLen; omega) (by omega) (by simp; omega) ?_)
          intro v1 w1 hown1 hgr _
          have hb1 : Below (w.heap.size + 1) wr w1 := Below.grown (Below.alloc (Below.refl _ _) (by omega) _) hgr (by simp; omega) (fun k hk => (hown.lt k hk).1)
          have hz1 : thAt w1 w.heap.size Th.zero := (hb1.block _ (by omega)).trans HZ.out
          have hown2 : w1.ownsRow (w.heap.size + 1) 5 1 v1 (s ++ [(markAt L k).b]).length (u8s (s ++ [(markAt L k).b])) := by simpa [u8s] using hown1
          have hr256 : ∀ b ∈ s ++ [(markAt L k).b], b < 256 := by
            intro b hb
            rcases List.mem_append.1 hb with hb | hb
            · exact hs256 b hb
            · simp at hb; omega
          have HF := Lib.hid (show n + 2 ≤ k + 1 ∧ k + 1 ≤ L.length ∧ w1.ownsRow (w.heap.size + 1) 5 1 v1 (s ++ [(markAt L k).b]).length (u8s (s ++ [(markAt L k).b])) ∧ (s ++ [(markAt L k).b]).length ≤ k + 1 ∧ (∀ b ∈ s ++ [(markAt L k).b], b < 256) ∧
            Hid (nameTh L at0 n = nameL L at0 n (L.length - (k + 1)) (k + 1) (s ++ [(markAt L k).b])) ∧ thAt w1 w.heap.size Th.zero ∧ Below w.heap.size w w1 from
            ⟨by omega, by omega, hown2, by simp; omega, hr256, HS.out.trans ((congrArg (fun m => nameL L at0 n m k s) (show L.length - k = L.length - (k + 1) + 1 by omega)).trans HON.out), hz1, hbe.trans (hb1.mono (by omega))⟩)
          clear hown hown1 hown2 hgr hb1 hz1 hr256 hs256 c0 hm1 hr HS HON HZ hbe
          go_wp2_with fail
          obtain ⟨f1, f2, f3, f4, f5, f6, f7, f8⟩ := HF.out
          go_roundw
          case rel => exact ⟨k + 1, _, f1, f2, by go_num, f3, f4, f5, f6, f7, f8⟩
          case measure => simp [intOf]; omega
      · have HD := Lib.hid (name_done (at0 := at0) (b0 := n) (n := L.length - (k + 1)) (s := s) e1 e2)
        have hsz := hz.lt
        clear hz
        have hconv := conv_own hown
        have hbs := bytesOf_nums s hs256
        generalize hstr : strOfNums (s.map fun b : Nat => (b : Int)) = str at hconv hbs
        clear hstr hown hs256 hm1
        go_wp2_with fail
        refine (bsign_any hr k 58 (by omega) rfl).mono ?_; rintro e w1 ⟨rfl, rfl⟩
        go_wp2_with fail
        refine (bsign_any hr (k + 1) 93 (by omega) rfl).mono ?_; rintro e w1 ⟨rfl, rfl⟩
        go_wp2_with fail
        have hnm := named_any str wr
        rw [hbs] at hnm
        have hlen : L.length - k = L.length - (k + 1) + 1 := by omega
        cases e3 : namedL s with
        | none =>
          have HE : Hid (nameTh L at0 n = (Th.zero, some (31, n))) := by
            rw [hlen] at HS
            refine HS.out.trans (HD.out.trans ?_)
            rw [e3]
          rw [e3] at hnm
          simp only [Option.getD_none, Option.isSome_none] at hnm
          clear HS HD e3 hlen hbs
          refine hnm.mono ?_; rintro e w1 ⟨rfl, hb1⟩
          have hs1 : w.heap.size < w1.heap.size := Nat.lt_of_lt_of_le hsz hb1.size
          have hz1 : isTh w1 w.heap.size := (HZ.out.below hb1).is
          have hbe1 := hbe.trans (hb1.mono (by omega))
          obtain ⟨z0, z1, z2, z3, z4, z5, z6⟩ := (HZ.out.below hb1).cells
          have f0 := frozen_cls (HZ.out.below hb1)
          clear hb1 hbe
          go_wp2_with fail
          rw [fold_setTh]
          rw [HE.out]
          exact ret_th Tryd.results125 rfl rfl rfl hz1 (((Below.refl _ _).alloc (by simp [setTh_size]; omega) _).alloc (by simp [setTh_size]; omega) _) rfl (flt_at (e := 31) (by simp [setTh_size]) (by simp [setTh_size]; omega)) hbe1 (Nat.le_refl _)
        | some c =>
          have HE : Hid (nameTh L at0 n = (⟨c, 0, false, k + 2⟩, none)) := by
            rw [hlen] at HS
            refine HS.out.trans (HD.out.trans ?_)
            rw [e3]
          rw [e3] at hnm
          simp only [Option.getD_some, Option.isSome_some] at hnm
          clear HS HD e3 hlen hbs
          refine hnm.mono ?_; rintro e w1 ⟨rfl, hb1⟩
          have hs1 : w.heap.size < w1.heap.size := Nat.lt_of_lt_of_le hsz hb1.size
          have hz1 : isTh w1 w.heap.size := (HZ.out.below hb1).is
          have hbe1 := hbe.trans (hb1.mono (by omega))
          obtain ⟨z0, z1, z2, z3, z4, z5, z6⟩ := (HZ.out.below hb1).cells
          have f0 := frozen_cls (HZ.out.below hb1)
          clear hb1 hbe
          go_wp2_with fail
          rw [fold_setTh]
          rw [HE.out]
          exact ret_th Tryd.results125 rfl rfl rfl hz1 ((Below.refl _ _).alloc (by simp [setTh_size]; omega) _) rfl rfl hbe1 (Nat.le_refl _)
    · have hsz := hz.lt
      clear hz
      have HE : Hid (nameTh L at0 n = (Th.zero, some (32, at0))) := by
        refine HS.out.trans ?_
        rw [show L.length - k = 0 by omega]
        rfl
      clear HS
      go_wp2_with fail
      refine (open_any hr).mono ?_; rintro e w1 ⟨v, rfl, hf, hb1⟩
      have hs1 : w.heap.size < w1.heap.size := Nat.lt_of_lt_of_le hsz hb1.size
      have hz1 : isTh w1 w.heap.size := (HZ.out.below hb1).is
      have hbe1 := hbe.trans (hb1.mono (by omega))
      obtain ⟨z0, z1, z2, z3, z4, z5, z6⟩ := (HZ.out.below hb1).cells
      have f0 := frozen_cls (HZ.out.below hb1)
      have HF := Lib.hid hf
      clear hbe hf hb1
      go_wp2_with fail
      rw [fold_setTh]
      rw [HE.out]
      exact ret_th Tryd.results125 rfl rfl rfl hz1 (Below.refl _ _) rfl ((HF.out.set hsz _ _ _ _ _ _ _).mono (Nat.le_of_lt hsz)) hbe1 (Nat.le_refl _)
end Go.Proofs.YtbdjcmhfcdamiaaDoor
