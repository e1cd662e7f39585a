/- markIntSS at rows of one's own that lie apart: each row is written, one after the other. -/
import Derived.WalkKit
import Derived.Test.YtmodnjljgcmdlaaQIx0
import Derived.Test.YtmodnjljgcmdlaaQIEqsR
import Derived.Test.YtmodnjljgcmdlaaQIMark
import Derived.Test.YtmodnjljgcmdlaaQIOwn
import Derived.Test.YtmodnjljgcmdlaaQIEqs
namespace Go.Proofs.Ytmodnjljgcmdlaa.Own
open Go.RowKit Go.Proofs.Ytmodnjljgcmdlaa.All Go.Proofs.Ytmodnjljgcmdlaa.Eqs Go.Proofs.YtmodnjljgcmdlaaW.PrintWords Go.Proofs.YtmodnjljgcmdlaaW.PrintLast
set_option maxHeartbeats 4000000 in
set_option maxRecDepth 100000 in
theorem markS (w0 w : World) (lo hi : Nat) (v : Value) (ls : List (List Int)) (a m : Int) (hB : Below w0.heap.size w0 w) (hlo : w0.heap.size ≤ lo) (h : OS w lo hi v ls) (hs : Small ls) (ha : 0 ≤ a) (ha2 : a ≤ 1125899906842624) (hm : m = a + (total ls : Int)) :
    Calls Try.prog 25 #[v, .int .i64 a] w fun e w' => e = .returned (.int .i64 m) ∧ OS w' lo hi v (marksS ls a) ∧ Below w0.heap.size w0 w' ∧ Kept w w' (In lo hi) := by
  obtain ⟨A, c, rfl⟩ := h.slice
  have HM := Aside0.mk hm
  have HS := Aside0.mk hs
  have HO0 := Aside0.mk h
  have HB0 := Aside0.mk hB
  have HL := Aside0.mk hlo
  have hl := hs.1
  have HT := Aside0.mk (total_small hs)
  clear hm hs h hB hlo
  go_enter Try.func25, Try.ntmps25
  go_wp2
  go_loopg [1, 5] ls.length (fun gg v1 v5 wr => ∃ (i : Nat) (b : Int), v5 = .int .i64 i ∧ v1 = .int .i64 b ∧ Aside0 (b = a + (total (ls.take i) : Int)) ∧ Aside0 (i + gg = ls.length) ∧ Aside0 (OS wr lo hi (.slice A ls.length c) (marksS (ls.take i) a ++ ls.drop i)) ∧ Aside0 (Below w0.heap.size w0 wr) ∧ Aside0 (Kept w wr (In lo hi)))
  case atStart => exact ⟨0, a, rfl, rfl, ⟨by simp [total]⟩, ⟨by omega⟩, ⟨by simpa [marksS] using HO0.out⟩, HB0, ⟨Kept.refl _ _⟩⟩
  case round =>
    obtain ⟨i, b, rfl, rfl, Hb, HG, HO, HB, HK⟩ := hrel
    by_cases hlt : i < ls.length
    · have hltz : (i : Int) < (ls.length : Int) := by omega
      have hlen : (marksS (ls.take i) a ++ ls.drop i).length = ls.length := by simp [marksS_length]; omega
      have hto := total_take_le ls i
      have hx : (ls.getD i []).length ≤ 1048576 := HS.out.2 _ (getD_mem hlt)
      have hbb : 0 ≤ b ∧ b < 1152921504606846976 := by have := Hb.out; have := HT.out; omega
      obtain ⟨g, cap, eo, hg1, hg2, hg3⟩ := Kd.S_form HO.out.1 (by omega)
      rw [hlen] at eo
      cases eo
      obtain ⟨oki, cs, hcl, hM, hcc, hfr, hoki, hH⟩ := Kd.S_elem HO.out.1 [] (i : Int) (by omega) (by omega)
      rw [show ((i : Int)).toNat = i from rfl, marksS_at ls a i hlt] at hM
      obtain ⟨ve, rfl, hR⟩ := hM
      have hcell := hcc 0 _ rfl
      rw [show (Kd.slice 3 (Kd.int .i64)).sz = 1 from rfl, show ((i : Int)).toNat = i from rfl, Nat.mul_one, Nat.add_zero] at hcell
      obtain ⟨Ae, ce, rfl⟩ := Kd.R_slice hR
      have HC := Aside0.mk (markP w0 wr lo oki (.slice Ae (ls.getD i []).length ce) (ls.getD i []) b HB.out HL.out hR hx hbb.1 hbb.2)
      have HH := Aside0.mk hH
      have HK1 := Aside0.mk hoki
      have HX := Aside0.mk hlen
      have HHI := Aside0.mk HO.out.2
      have HT1 := Aside0.mk (total_take ls i hlt)
      clear hg3 hcl hcc hfr hH hR hoki hlen hto hg1 hg2
      have HSET := Aside0.mk (marksS_step ls a i hlt)
      generalize hy : ls.getD i [] = y at HC HSET HT1 hx hcell HH
      clear hy
      go_wp2_with (go_at_call 24; refine HC.out.mono ?_; rintro e w' ⟨rfl, hr, hb, hk⟩; have HR := Aside0.mk hr; have HB2 := Aside0.mk hb; have HKk := Aside0.mk hk; clear hr hb hk)
      go_roundg (ls.length - (i + 1))
      case measure => have := HG.out; omega
      case rel => exact ⟨i + 1, b + (y.length : Int), by go_num, rfl, ⟨by have := Hb.out; have := HT1.out; omega⟩, ⟨by omega⟩, ⟨by
          have h1 := Kd.H_kept HH.out HKk.out (fun _ _ hn => hn)
          have h2 := Kd.H_back h1 (x' := marks y.length b) (okp := oki) ⟨_, rfl, HR.out⟩ (fun _ h => h)
          rw [show ((i : Int)).toNat = i from rfl, Hb.out, HSET.out] at h2
          exact ⟨h2, Nat.le_trans HHI.out HKk.out.1⟩⟩, HB2, ⟨Kept.then_ HK.out HKk.out (fun k h => .inl (HK1.out k h).1)⟩⟩
    · have hltz : ¬ (i : Int) < (ls.length : Int) := by omega
      have : i = ls.length := by have := HG.out; omega
      subst this
      go_wp2
      go_ret
      refine ⟨?_, ?_, HB.out, HK.out⟩
      · rw [HM.out, Hb.out, List.take_of_length_le (Nat.le_refl _)]; rfl
      · have := HO.out
        rwa [List.take_of_length_le (Nat.le_refl _), List.drop_of_length_le (Nat.le_refl _), List.append_nil] at this
end Go.Proofs.Ytmodnjljgcmdlaa.Own

