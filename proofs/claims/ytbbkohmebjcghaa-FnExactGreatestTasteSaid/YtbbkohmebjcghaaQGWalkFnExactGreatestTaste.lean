/- The walk of the law FnExactGreatestTaste: given that the two functions agree, its call answers true and leaves what there was. -/
import Derived.WalkKit
import Derived.Test.YtbbkohmebjcghaaQGx0
import Derived.Test.YtbbkohmebjcghaaQGx1
import Derived.Test.YtbbkohmebjcghaaQGEqsR
import Derived.Test.YtbbkohmebjcghaaQGOwn
import Derived.Test.YtbbkohmebjcghaaQGOwnS
import Derived.Test.YtbbkohmebjcghaaQGEqs
namespace Go.Proofs.Ytbbkohmebjcghaa.Walk
open Go.RowKit Go.Proofs.Ytbbkohmebjcghaa.All Go.Proofs.Ytbbkohmebjcghaa.Eqs Go.Proofs.Ytbbkohmebjcghaa.Own Go.Proofs.YtbbkohmebjcghaaW.PrintWords Go.Proofs.YtbbkohmebjcghaaW.PrintLast
set_option linter.unusedVariables false
set_option linter.unusedSimpArgs false
set_option maxHeartbeats 8000000 in
set_option maxRecDepth 100000 in
theorem GreatestTaste.sz (k : Nat) (a0 : Int) (A1 : Option Addr) (c1 : Nat) (l1 : List (List Int)) (w : World) (hr1 : Kd.C dI w A1 l1.length l1) (hc1 : l1.length ≤ c1) (r : Int) (hsz : laws_szIntSS.f k l1 1048576 = some r) (h0 : r < 0)  :
    Calls Try.prog 4 #[.int .i64 a0, .slice A1 l1.length c1] w fun e w' => e = .returned (.bool true) ∧ Below w.heap.size w w' := by
  have HR1 := Aside0.mk hr1
  have HC1 := Aside0.mk hc1
  clear hr1 hc1
  have HB := Aside0.mk (Below.refl w.heap.size w)
  have ce : decide (r < 0) = true := decide_eq_true h0
  clear h0
  go_enter Try.func4, Try.ntmps4
  go_wp2_with (first
    | ((with_reducible refine gate_callee (f := 14) rfl ?_); refine goesL_ (some 13) rfl rfl Try.func14 (by kernel_rfl) rfl #[.slice A1 l1.length c1, .int .i64 1048576] rfl (by (try simp only [List.map_toArray, List.map_cons, List.map_nil]); first | done | rfl | (simp only [List.length_drop, List.length_take]; rfl)) ?_; (with_reducible refine (laws_szIntSS.calls k _ _ l1 1048576 r _ ?side1 ?side2 hsz).mono ?_); (case side1 => exact (Kd.C_below HR1.out HB.out)); (case side2 => exact HC1.out); rintro e w1 ⟨rfl, hd_⟩; refine ⟨_, rfl, ?_⟩; have hb : Below w.heap.size w w1 := (by obtain ⟨m_, rfl⟩ := hd_; exact pw_below_drewN (Below.refl _ _) _); clear hd_; have sw1 := Aside0.mk (show w.heap.size ≤ w1.heap.size from hb.size); replace HB := Aside0.mk (below_step HB.out hb); clear hb; (try clear ho_); (try clear ho0_); (try clear ho1_)))
  go_ret
  exact ⟨rfl, HB.out⟩
set_option maxHeartbeats 8000000 in
set_option maxRecDepth 100000 in
theorem GreatestTaste.main (k : Nat) (a0 : Int) (A1 : Option Addr) (c1 : Nat) (l1 : List (List Int)) (w : World) (hr1 : Kd.C dI w A1 l1.length l1) (hc1 : l1.length ≤ c1) (r : Int) (hsz : laws_szIntSS.f k l1 1048576 = some r) (h0 : 0 ≤ r) (hk : 3000000 < k) (o0 : Int) (o1 : Bool) (hs1 : Small l1)   (hspec : spec_GreatestTaste.f k a0 l1 = some (o0, o1)) (himpl : impl_GreatestTaste.f k a0 l1 = some (o0, o1)) :
    Calls Try.prog 4 #[.int .i64 a0, .slice A1 l1.length c1] w fun e w' => e = .returned (.bool true) ∧ Below w.heap.size w w' := by
  have HR1 := Aside0.mk hr1
  have HC1 := Aside0.mk hc1
  clear hr1 hc1
  have HB := Aside0.mk (Below.refl w.heap.size w)
  have ce : decide (r < 0) = false := decide_eq_false (by omega)
  clear h0
  have neo0 : (o0 != o0) = false := bne_self_eq_false o0
  have neo1 : (o1 != o1) = false := bne_self_eq_false o1
  go_enter Try.func4, Try.ntmps4
  go_wp2_with (first
    | ((with_reducible refine gate_callee (f := 14) rfl ?_); refine goesL_ (some 13) rfl rfl Try.func14 (by kernel_rfl) rfl #[.slice A1 l1.length c1, .int .i64 1048576] rfl (by (try simp only [List.map_toArray, List.map_cons, List.map_nil]); first | done | rfl | (simp only [List.length_drop, List.length_take]; rfl)) ?_; (with_reducible refine (laws_szIntSS.calls k _ _ l1 1048576 r _ ?side1 ?side2 hsz).mono ?_); (case side1 => exact (Kd.C_below HR1.out HB.out)); (case side2 => exact HC1.out); rintro e w1 ⟨rfl, hd_⟩; refine ⟨_, rfl, ?_⟩; have hb : Below w.heap.size w w1 := (by obtain ⟨m_, rfl⟩ := hd_; exact pw_below_drewN (Below.refl _ _) _); clear hd_; have sw1 := Aside0.mk (show w.heap.size ≤ w1.heap.size from hb.size); replace HB := Aside0.mk (below_step HB.out hb); clear hb; (try clear ho_); (try clear ho0_); (try clear ho1_))
    | ((with_reducible refine gate_callee (f := 16) rfl ?_); refine goesL_ (some 19) rfl rfl Try.func16 (by kernel_rfl) rfl #[.slice A1 l1.length c1] rfl (by (try simp only [List.map_toArray, List.map_cons, List.map_nil]); first | done | rfl | (simp only [List.length_drop, List.length_take]; rfl)) ?_; (with_reducible refine (laws_toIntSS.calls k _ _ l1 l1 _ ?side1 ?side2 (toIntSS_is l1 hs1 k (by omega))).mono ?_); (case side1 => exact (Kd.C_below HR1.out HB.out)); (case side2 => exact HC1.out); rintro e w2 ⟨v_, rfl, ho_, hb⟩; refine ⟨_, rfl, ?_⟩; have sw2 := Aside0.mk (show w1.heap.size ≤ w2.heap.size from hb.size); replace HB := Aside0.mk (below_step HB.out hb); have F3 := Aside0.mk (OS.of ho_); obtain ⟨B4, e5, q_⟩ := F3.out.slice; subst q_; clear hb; (try clear ho_); (try clear ho0_); (try clear ho1_))
    | ((with_reducible refine gate_callee (f := 23) rfl ?_); refine goesL_ (some 20) rfl rfl Try.func23 (by kernel_rfl) rfl #[.int .i64 a0, .slice B4 l1.length e5] rfl (by (try simp only [List.map_toArray, List.map_cons, List.map_nil]); first | done | rfl | (simp only [List.length_drop, List.length_take]; rfl)) ?_; (with_reducible refine (spec_GreatestTaste.calls k a0 _ _ l1 o0 o1 _ ?side1 ?side2 hspec).mono ?_); (case side1 => exact F3.out.reads.2.2); (case side2 => exact F3.out.reads.2.1); rintro e w6 ⟨rfl, hd_⟩; refine ⟨_, rfl, ?_⟩; have hb : Below w2.heap.size w2 w6 := (by obtain ⟨m_, rfl⟩ := hd_; exact pw_below_drewN (Below.refl _ _) _); clear hd_; replace F3 := Aside0.mk (F3.out.below hb); have sw6 := Aside0.mk (show w2.heap.size ≤ w6.heap.size from hb.size); replace HB := Aside0.mk (below_step HB.out hb); clear hb; (try clear ho_); (try clear ho0_); (try clear ho1_))
    | ((with_reducible refine gate_callee (f := 16) rfl ?_); refine goesL_ (some 24) rfl rfl Try.func16 (by kernel_rfl) rfl #[.slice A1 l1.length c1] rfl (by (try simp only [List.map_toArray, List.map_cons, List.map_nil]); first | done | rfl | (simp only [List.length_drop, List.length_take]; rfl)) ?_; (with_reducible refine (laws_toIntSS.calls k _ _ l1 l1 _ ?side1 ?side2 (toIntSS_is l1 hs1 k (by omega))).mono ?_); (case side1 => exact (Kd.C_below HR1.out HB.out)); (case side2 => exact HC1.out); rintro e w7 ⟨v_, rfl, ho_, hb⟩; refine ⟨_, rfl, ?_⟩; replace F3 := Aside0.mk (F3.out.below hb); have sw7 := Aside0.mk (show w6.heap.size ≤ w7.heap.size from hb.size); replace HB := Aside0.mk (below_step HB.out hb); have F8 := Aside0.mk (OS.of ho_); obtain ⟨B9, e10, q_⟩ := F8.out.slice; subst q_; clear hb; (try clear ho_); (try clear ho0_); (try clear ho1_))
    | ((with_reducible refine gate_callee (f := 24) rfl ?_); refine goesL_ (some 28) rfl rfl Try.func24 (by kernel_rfl) rfl #[.int .i64 a0, .slice B9 l1.length e10] rfl (by (try simp only [List.map_toArray, List.map_cons, List.map_nil]); first | done | rfl | (simp only [List.length_drop, List.length_take]; rfl)) ?_; (with_reducible refine (impl_GreatestTaste.calls k a0 _ _ l1 o0 o1 _ ?side1 ?side2 himpl).mono ?_); (case side1 => exact F8.out.reads.2.2); (case side2 => exact F8.out.reads.2.1); rintro e w11 ⟨rfl, hb⟩; refine ⟨_, rfl, ?_⟩; replace F3 := Aside0.mk (F3.out.below hb); replace F8 := Aside0.mk (F8.out.below hb); have sw11 := Aside0.mk (show w7.heap.size ≤ w11.heap.size from hb.size); replace HB := Aside0.mk (below_step HB.out hb); clear hb; (try clear ho_); (try clear ho0_); (try clear ho1_))
    | ((with_reducible refine gate_callee (f := 16) rfl ?_); refine goesL_ (some 41) rfl rfl Try.func16 (by kernel_rfl) rfl #[.slice A1 l1.length c1] rfl (by (try simp only [List.map_toArray, List.map_cons, List.map_nil]); first | done | rfl | (simp only [List.length_drop, List.length_take]; rfl)) ?_; (with_reducible refine (laws_toIntSS.calls k _ _ l1 l1 _ ?side1 ?side2 (toIntSS_is l1 hs1 k (by omega))).mono ?_); (case side1 => exact (Kd.C_below HR1.out HB.out)); (case side2 => exact HC1.out); rintro e w12 ⟨v_, rfl, ho_, hb⟩; refine ⟨_, rfl, ?_⟩; replace F3 := Aside0.mk (F3.out.below hb); replace F8 := Aside0.mk (F8.out.below hb); have sw12 := Aside0.mk (show w11.heap.size ≤ w12.heap.size from hb.size); replace HB := Aside0.mk (below_step HB.out hb); have F13 := Aside0.mk (OS.of ho_); obtain ⟨B14, e15, q_⟩ := F13.out.slice; subst q_; clear hb; (try clear ho_); (try clear ho0_); (try clear ho1_))
    | ((with_reducible refine gate_callee (f := 19) rfl ?_); refine goesL_ (some 42) rfl rfl Try.func19 (by kernel_rfl) rfl #[.slice B9 l1.length e10, .slice B14 l1.length e15] rfl (by (try simp only [List.map_toArray, List.map_cons, List.map_nil]); first | done | rfl | (simp only [List.length_drop, List.length_take]; rfl)) ?_; (with_reducible refine (laws_eqIntSS.calls k _ _ l1 _ _ l1 true _ ?side1 ?side2 ?side3 ?side4 (eqIntSS_same l1 hs1 k (by omega))).mono ?_); (case side1 => exact F8.out.reads.2.2); (case side2 => exact F8.out.reads.2.1); (case side3 => exact F13.out.reads.2.2); (case side4 => exact F13.out.reads.2.1); rintro e w16 ⟨rfl, hd_⟩; refine ⟨_, rfl, ?_⟩; have hb : Below w12.heap.size w12 w16 := (by obtain ⟨m_, rfl⟩ := hd_; exact pw_below_drewN (Below.refl _ _) _); clear hd_; replace F3 := Aside0.mk (F3.out.below hb); replace F8 := Aside0.mk (F8.out.below hb); replace F13 := Aside0.mk (F13.out.below hb); have sw16 := Aside0.mk (show w12.heap.size ≤ w16.heap.size from hb.size); replace HB := Aside0.mk (below_step HB.out hb); clear hb; (try clear ho_); (try clear ho0_); (try clear ho1_)))
  go_ret
  exact ⟨rfl, HB.out⟩
end Go.Proofs.Ytbbkohmebjcghaa.Walk

