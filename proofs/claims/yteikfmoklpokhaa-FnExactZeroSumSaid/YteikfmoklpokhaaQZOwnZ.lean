/- spec.ZeroSum: two tables of its own, the second one's numbers changed where they lie. -/
import Derived.WalkKit
import Derived.Test.YteikfmoklpokhaaQZx0
import Derived.Test.YteikfmoklpokhaaQZx4
import Derived.Test.YteikfmoklpokhaaQZx2
import Derived.Test.YteikfmoklpokhaaQZOwn
import Derived.Test.YteikfmoklpokhaaQZOwnG
import Derived.Test.YteikfmoklpokhaaQZEqs
namespace Go.Proofs.Yteikfmoklpokhaa.Own
open Go.RowKit Go.Proofs.Yteikfmoklpokhaa.All Go.Proofs.Yteikfmoklpokhaa.Eqs Go.Proofs.YteikfmoklpokhaaW.PrintWords Go.Proofs.YteikfmoklpokhaaW.PrintLast Go.Proofs.YteikfmoklpokhaaW.PrintMore
set_option linter.unusedVariables false
set_option linter.unusedSimpArgs false
def negP (l : List Int) : List Int := l.map fun x => wrap64 (-x)
def negS (ls : List (List Int)) : List (List Int) := ls.map negP
theorem negP_step (y : List Int) (j : Nat) (h : j < y.length) : (negP (y.take j) ++ y.drop j).set j (wrap64 (-(rd (negP (y.take j) ++ y.drop j) (j : Int)))) = negP (y.take (j + 1)) ++ y.drop (j + 1) := by
  have hl : (negP (y.take j)).length = j := by simp [negP]; omega
  have hr : rd (negP (y.take j) ++ y.drop j) (j : Int) = y[j] := by
    simp only [rd, List.getD, Int.toNat_natCast]
    rw [List.getElem?_append_right (by omega), hl, Nat.sub_self, List.getElem?_drop, Nat.add_zero, List.getElem?_eq_getElem h]
    rfl
  rw [hr, List.set_append_right _ _ (by omega), hl, Nat.sub_self, List.drop_eq_getElem_cons h, List.set_cons_zero, List.take_succ_eq_append_getElem h]
  show _ = List.map _ (y.take j ++ [y[j]]) ++ _
  rw [List.map_append, List.append_assoc]
  rfl
theorem negS_at (ls : List (List Int)) (i : Nat) (hi : i < ls.length) : (negS (ls.take i) ++ ls.drop i).getD i [] = ls.getD i [] := by
  have hl : (negS (ls.take i)).length = i := by simp [negS]; omega
  simp only [List.getD]
  rw [List.getElem?_append_right (by omega), hl, Nat.sub_self, List.getElem?_drop, Nat.add_zero]
theorem negS_step (ls : List (List Int)) (i : Nat) (hi : i < ls.length) : (negS (ls.take i) ++ ls.drop i).set i (negP (ls.getD i [])) = negS (ls.take (i + 1)) ++ ls.drop (i + 1) := by
  have hl : (negS (ls.take i)).length = i := by simp [negS]; omega
  rw [List.set_append_right _ _ (by omega), hl, Nat.sub_self, List.drop_eq_getElem_cons hi, List.set_cons_zero, List.take_succ_eq_append_getElem hi]
  show _ = List.map _ (ls.take i ++ [ls[i]]) ++ _
  rw [List.map_append, List.append_assoc, show ls.getD i [] = ls[i] by simp [List.getD, List.getElem?_eq_getElem hi]]
  rfl
def spec_ZeroSum.f (k : Nat) (l0 : List (List Int)) : Option (List (List Int) × List (List Int) × Bool) := (spec_gmRows.f k l0).bind fun t => if t = true then ((spec_gmOwn.f k l0).bind fun a => (spec_gmOwn.f k l0).bind fun b => some (a, negS b, true)) else some ([], [], false)
set_option maxHeartbeats 8000000 in
set_option maxRecDepth 100000 in
theorem spec_ZeroSum_own.calls (k : Nat) (A0 : Option Addr) (c0 : Nat) (l0 : List (List Int)) (r1 : List (List Int)) (r2 : List (List Int)) (r3 : Bool) (w : World) (hr0 : Kd.C dI w A0 l0.length l0) (hc0 : l0.length ≤ c0) (h : spec_ZeroSum.f k l0 = some (r1, r2, r3)) :
    Calls Try.prog 24 #[.slice A0 l0.length c0] w fun e w' => ∃ v0_ v1_ : Value, e = .returned (.tuple #[.agg #[v0_, v1_], .bool r3]) ∧ Kd.S dI 22 w' w.heap.size (fun _ => True) v0_ r1 ∧ Kd.S dI 22 w' w.heap.size (fun _ => True) v1_ r2 ∧ Below w.heap.size w w' := by
  unfold spec_ZeroSum.f at h
  obtain ⟨t, ht, h⟩ := Option.bind_eq_some_iff.mp h
  have hu33 := Try.underlying33
  have HR0 := Aside0.mk hr0
  have HC0 := Aside0.mk hc0
  have HT := Aside0.mk ht
  have HB := Aside0.mk (Below.refl w.heap.size w)
  clear hr0 hc0 ht
  cases t with
  | false =>
    rw [if_neg (by decide)] at h
    simp only [Option.some.injEq, Prod.mk.injEq] at h
    obtain ⟨rfl, rfl, rfl⟩ := h
    go_enter Try.func24, Try.ntmps24
    go_wp2_with (first
      | ((with_reducible refine gate_dst (N := 2) rfl ?_); refine box_event ?hg (N := 2) ?hd (cs := #[.slice none 0 0, .slice none 0 0]) (t := 33) ?hr ?_; (case hd => rfl); (case hg => rfl); (case hr => first | (go_simp; done) | (go_simp; rfl)); intro g2 hg w1 hbox hb; skip; have sw1 := Aside0.mk (show w.heap.size ≤ w1.heap.size from hb.size); have lg2 := Aside0.mk (show w.heap.size ≤ g2 by rw [hg]; exact Nat.le_refl _); have ug2 := Aside0.mk (blk_lt hbox); replace HB := Aside0.mk (below_step HB.out hb); have BKg2 := Aside0.mk hbox; clear hg hb hbox)
      | ((with_reducible refine gate_callee (f := 66) rfl ?_); refine goesL_ (some 9) rfl rfl Try.func66 (by kernel_rfl) rfl #[.slice A0 l0.length c0] rfl (by (try simp only [List.map_toArray, List.map_cons, List.map_nil]); first | done | rfl | (simp only [List.length_drop, List.length_take]; rfl)) ?_; (with_reducible refine (spec_gmRows.calls k _ _ l0 false _ ?side1 ?side2 HT.out).mono ?_); (case side1 => exact Kd.C_below HR0.out HB.out); (case side2 => exact HC0.out); rintro e w2 ⟨rfl, hd_⟩; refine ⟨_, rfl, ?_⟩; have hb : Below w1.heap.size w1 w2 := (by obtain ⟨m_, rfl⟩ := hd_; exact pw_below_drewN (Below.refl _ _) _); clear hd_; replace BKg2 := Aside0.mk (blk_below BKg2.out hb); have sw2 := Aside0.mk (show w1.heap.size ≤ w2.heap.size from hb.size); replace HB := Aside0.mk (below_step HB.out hb); have hcg2_0 : w2.cell? ⟨g2, 0, none⟩ = some (.slice none 0 0) := (blk_cell BKg2.out 0).trans rfl; have hfg2_0 := blk_frozen BKg2.out 0; have hcg2_1 : w2.cell? ⟨g2, 1, none⟩ = some (.slice none 0 0) := (blk_cell BKg2.out 1).trans rfl; have hfg2_1 := blk_frozen BKg2.out 1; clear hb)
      | ((with_reducible refine gate_store (t := 33) (p := 2) (v := .tmp 11) rfl ?_); refine store_event (t := 33) (p := 2) (v := .tmp 11) (w1 := (w2.setCell ⟨g2, 0, none⟩ (.slice none 0 0)).setCell ⟨g2, 1, none⟩ (.slice none 0 0)) ?hg ?ho ?hn ?hr ?_; (case ho => rfl); (case hg => rfl); (case hn => rfl); (case hr => first | (go_simp; done) | (go_simp; rfl)); intro w3 hw_; obtain ⟨hbk, hk, hk1⟩ := store_two BKg2.out hw_; clear hw_; skip; have sw3 := Aside0.mk (show w2.heap.size ≤ w3.heap.size from hk.1); replace HB := Aside0.mk (store_below HB.out hk1 (by have z0_ := sw1.out; have z1_ := sw2.out; have z2_ := lg2.out; have z3_ := ug2.out; omega)); replace BKg2 := Aside0.mk hbk; clear hk hk1 hbk))
    refine bodyPost_ret (results_ct rfl _ _ g2 33 #[.slice none 0 0, .slice none 0 0] (0, 0) _ rfl BKg2.out Try.underlying33 rfl (by kernel_rfl)) rfl ?_
    exact ⟨_, _, rfl, Kd.S_nil _ _ _ _ _, Kd.S_nil _ _ _ _ _, HB.out⟩
  | true =>
    rw [if_pos rfl] at h
    obtain ⟨a, ha, h⟩ := Option.bind_eq_some_iff.mp h
    obtain ⟨b, hb, h⟩ := Option.bind_eq_some_iff.mp h
    simp only [Option.some.injEq, Prod.mk.injEq] at h
    obtain ⟨rfl, rfl, rfl⟩ := h
    have HA := Aside0.mk ha
    have HB2 := Aside0.mk hb
    clear ha hb
    go_enter Try.func24, Try.ntmps24
    go_wp2_with (first
      | ((with_reducible refine gate_dst (N := 2) rfl ?_); refine box_event ?hg (N := 2) ?hd (cs := #[.slice none 0 0, .slice none 0 0]) (t := 33) ?hr ?_; (case hd => rfl); (case hg => rfl); (case hr => first | (go_simp; done) | (go_simp; rfl)); intro g2 hg w1 hbox hb; skip; have sw1 := Aside0.mk (show w.heap.size ≤ w1.heap.size from hb.size); have lg2 := Aside0.mk (show w.heap.size ≤ g2 by rw [hg]; exact Nat.le_refl _); have ug2 := Aside0.mk (blk_lt hbox); replace HB := Aside0.mk (below_step HB.out hb); have BKg2 := Aside0.mk hbox; clear hg hb hbox)
      | ((with_reducible refine gate_callee (f := 66) rfl ?_); refine goesL_ (some 9) rfl rfl Try.func66 (by kernel_rfl) rfl #[.slice A0 l0.length c0] rfl (by (try simp only [List.map_toArray, List.map_cons, List.map_nil]); first | done | rfl | (simp only [List.length_drop, List.length_take]; rfl)) ?_; (with_reducible refine (spec_gmRows.calls k _ _ l0 true _ ?side1 ?side2 HT.out).mono ?_); (case side1 => exact Kd.C_below HR0.out HB.out); (case side2 => exact HC0.out); rintro e w2 ⟨rfl, hd_⟩; refine ⟨_, rfl, ?_⟩; have hb : Below w1.heap.size w1 w2 := (by obtain ⟨m_, rfl⟩ := hd_; exact pw_below_drewN (Below.refl _ _) _); clear hd_; replace BKg2 := Aside0.mk (blk_below BKg2.out hb); have sw2 := Aside0.mk (show w1.heap.size ≤ w2.heap.size from hb.size); replace HB := Aside0.mk (below_step HB.out hb); have hcg2_0 : w2.cell? ⟨g2, 0, none⟩ = some (.slice none 0 0) := (blk_cell BKg2.out 0).trans rfl; have hfg2_0 := blk_frozen BKg2.out 0; have hcg2_1 : w2.cell? ⟨g2, 1, none⟩ = some (.slice none 0 0) := (blk_cell BKg2.out 1).trans rfl; have hfg2_1 := blk_frozen BKg2.out 1; clear hb)
      | ((with_reducible refine gate_callee (f := 67) rfl ?_); refine goesL_ (some 13) rfl rfl Try.func67 (by kernel_rfl) rfl #[.slice A0 l0.length c0] rfl (by (try simp only [List.map_toArray, List.map_cons, List.map_nil]); first | done | rfl | (simp only [List.length_drop, List.length_take]; rfl)) ?_; (with_reducible refine (spec_gmOwn.calls k _ _ l0 a _ ?side1 ?side2 HA.out).mono ?_); (case side1 => exact Kd.C_below HR0.out HB.out); (case side2 => exact HC0.out); rintro e w3 ⟨v_, rfl, ho_, hb⟩; refine ⟨_, rfl, ?_⟩; replace BKg2 := Aside0.mk (blk_below BKg2.out hb); have sw3 := Aside0.mk (show w2.heap.size ≤ w3.heap.size from hb.size); replace HB := Aside0.mk (below_step HB.out hb); have F1 := Aside0.mk (OS.of ho_); clear ho_; obtain ⟨B1, e1, q_⟩ := F1.out.slice; subst q_; clear hb)
      | ((with_reducible refine gate_callee (f := 67) rfl ?_); refine goesL_ (some 15) rfl rfl Try.func67 (by kernel_rfl) rfl #[.slice A0 l0.length c0] rfl (by (try simp only [List.map_toArray, List.map_cons, List.map_nil]); first | done | rfl | (simp only [List.length_drop, List.length_take]; rfl)) ?_; (with_reducible refine (spec_gmOwn.calls k _ _ l0 b _ ?side1 ?side2 HB2.out).mono ?_); (case side1 => exact Kd.C_below HR0.out HB.out); (case side2 => exact HC0.out); rintro e w4 ⟨v_, rfl, ho_, hb⟩; refine ⟨_, rfl, ?_⟩; replace BKg2 := Aside0.mk (blk_below BKg2.out hb); replace F1 := Aside0.mk (F1.out.below hb); have sw4 := Aside0.mk (show w3.heap.size ≤ w4.heap.size from hb.size); replace HB := Aside0.mk (below_step HB.out hb); have F2 := Aside0.mk (OS.of ho_); clear ho_; obtain ⟨B2, e2, q_⟩ := F2.out.slice; subst q_; clear hb)
      | ((with_reducible refine gate_dst (N := 4) rfl ?_); refine box_event ?hg (N := 4) ?hd (cs := #[.slice none 0 0, .slice none 0 0]) (t := 33) ?hr ?_; (case hd => rfl); (case hg => rfl); (case hr => first | (go_simp; done) | (go_simp; rfl)); intro g4 hg w5 hbox hb; replace BKg2 := Aside0.mk (blk_below BKg2.out hb); replace F1 := Aside0.mk (F1.out.below hb); replace F2 := Aside0.mk (F2.out.below hb); have sw5 := Aside0.mk (show w4.heap.size ≤ w5.heap.size from hb.size); have lg4 := Aside0.mk (show w4.heap.size ≤ g4 by rw [hg]; exact Nat.le_refl _); have ug4 := Aside0.mk (blk_lt hbox); replace HB := Aside0.mk (below_step HB.out hb); have BKg4 := Aside0.mk hbox; clear hg hb hbox; have hcg4_0 : w5.cell? ⟨g4, 0, none⟩ = some (.slice none 0 0) := (blk_cell BKg4.out 0).trans rfl; have hfg4_0 := blk_frozen BKg4.out 0; have hcg4_1 : w5.cell? ⟨g4, 1, none⟩ = some (.slice none 0 0) := (blk_cell BKg4.out 1).trans rfl; have hfg4_1 := blk_frozen BKg4.out 1)
      | ((with_reducible refine gate_store (t := 33) (p := 4) (v := .tmp 16) rfl ?_); refine store_event (t := 33) (p := 4) (v := .tmp 16) (w1 := (w5.setCell ⟨g4, 0, none⟩ (.slice B1 a.length e1)).setCell ⟨g4, 1, none⟩ (.slice B2 b.length e2)) ?hg ?ho ?hn ?hr ?_; (case ho => rfl); (case hg => rfl); (case hn => rfl); (case hr => first | (go_simp; done) | (go_simp; rfl)); intro w6 hw_; obtain ⟨hbk, hk, hk1⟩ := store_two BKg4.out hw_; clear hw_; replace F1 := Aside0.mk (F1.out.kept hk (fun k h1_ h2_ => by have y1_ := h1_.2; have y3_ : k = g4 := h2_; have z0_ := sw1.out; have z1_ := sw2.out; have z2_ := sw3.out; have z3_ := sw4.out; have z4_ := sw5.out; have z5_ := lg2.out; have z6_ := ug2.out; have z7_ := lg4.out; have z8_ := ug4.out; omega)); replace F2 := Aside0.mk (F2.out.kept hk (fun k h1_ h2_ => by have y1_ := h1_.2; have y3_ : k = g4 := h2_; have z0_ := sw1.out; have z1_ := sw2.out; have z2_ := sw3.out; have z3_ := sw4.out; have z4_ := sw5.out; have z5_ := lg2.out; have z6_ := ug2.out; have z7_ := lg4.out; have z8_ := ug4.out; omega)); replace BKg2 := Aside0.mk (blk_kept BKg2.out hk (fun h2_ => by have y3_ : g2 = g4 := h2_; have z0_ := sw1.out; have z1_ := sw2.out; have z2_ := sw3.out; have z3_ := sw4.out; have z4_ := sw5.out; have z5_ := lg2.out; have z6_ := ug2.out; have z7_ := lg4.out; have z8_ := ug4.out; omega)); have sw6 := Aside0.mk (show w5.heap.size ≤ w6.heap.size from hk.1); replace HB := Aside0.mk (store_below HB.out hk1 (by have z0_ := sw1.out; have z1_ := sw2.out; have z2_ := sw3.out; have z3_ := sw4.out; have z4_ := sw5.out; have z5_ := lg4.out; omega)); replace BKg4 := Aside0.mk hbk; clear hk hk1 hbk; have hcg4_0 : w6.cell? ⟨g4, 0, none⟩ = some (.slice B1 a.length e1) := (blk_cell BKg4.out 0).trans rfl; have hfg4_0 := blk_frozen BKg4.out 0; have hcg4_1 : w6.cell? ⟨g4, 1, none⟩ = some (.slice B2 b.length e2) := (blk_cell BKg4.out 1).trans rfl; have hfg4_1 := blk_frozen BKg4.out 1))
    go_loopg [20] b.length (fun gg v20 wr => ∃ i : Nat, v20 = .int .i64 i ∧ Aside0 (i + gg = b.length) ∧ Aside0 (OS wr w3.heap.size w4.heap.size (.slice B2 b.length e2) (negS (b.take i) ++ b.drop i)) ∧ Aside0 (Below w.heap.size w wr) ∧ Aside0 (Kept w6 wr (In w3.heap.size w4.heap.size)))
    case atStart => exact ⟨0, rfl, ⟨by omega⟩, ⟨by simpa [negS] using F2.out⟩, HB, ⟨Kept.refl _ _⟩⟩
    case round =>
      obtain ⟨i, rfl, HG, HO, HBr, HK⟩ := hrel
      rename World => wo
      by_cases hlt : i < b.length
      · have hltz : (i : Int) < (b.length : Int) := by omega
        have hlen : (negS (b.take i) ++ b.drop i).length = b.length := by simp [negS]; omega
        have hbb : b.length ≤ 9223372036854775807 := by have q := HO.out.reads.2.2.2.1; rw [hlen] at q; exact q
        obtain ⟨g, cap, eo, hg1, hg2, hg3⟩ := Kd.S_form HO.out.1 (by omega)
        rw [hlen] at eo
        cases eo
        obtain ⟨oki, cs, hcl, hM, hcc, hfr, hoki, hH⟩ := Kd.S_elem HO.out.1 [] (i : Int) (by omega) (by omega)
        rw [show ((i : Int)).toNat = i from rfl, negS_at b i hlt] at hM
        obtain ⟨ve, rfl, hR⟩ := hM
        have hcell := hcc 0 _ rfl
        rw [show (Kd.slice 3 (Kd.int .i64)).sz = 1 from rfl, show ((i : Int)).toNat = i from rfl, Nat.mul_one, Nat.add_zero] at hcell
        obtain ⟨Ae, ce, rfl⟩ := Kd.R_slice hR
        have HH := Aside0.mk hH
        have HK1 := Aside0.mk hoki
        have HRR := Aside0.mk hR
        have HHI := Aside0.mk HO.out.2
        have HSET := Aside0.mk (negS_step b i hlt)
        clear hg3 hcl hcc hfr hH hR hoki hlen hg1 hg2
        generalize hy : b.getD i [] = y at HRR HSET hcell HH
        clear hy
        have hby : y.length ≤ 9223372036854775807 := (Kd.R_reads' HRR.out).2.2.2.1
        go_wp2
        go_loopg [26] y.length (fun gj v26 wj => ∃ j : Nat, v26 = .int .i64 j ∧ Aside0 (j + gj = y.length) ∧ Aside0 (Kd.R (Kd.int .i64) 3 wj w3.heap.size oki (.slice Ae y.length ce) (negP (y.take j) ++ y.drop j)) ∧ Aside0 (Below w.heap.size w wj) ∧ Aside0 (Kept wo wj oki))
        case atStart => exact ⟨0, rfl, ⟨by omega⟩, ⟨by simpa [negP] using HRR.out⟩, HBr, ⟨Kept.refl _ _⟩⟩
        case round =>
          clear HRR
          obtain ⟨j, rfl, HGj, HRj, HBj, HKj⟩ := hrel
          by_cases hj : j < y.length
          · have hjz : (j : Int) < (y.length : Int) := by omega
            have hlen : (negP (y.take j) ++ y.drop j).length = y.length := by simp [negP]; omega
            have HSj := Aside0.mk (negP_step y j hj)
            obtain ⟨go, co, eo, gb, gl, cl, hG⟩ := Kd.R_form HRj.out (by omega)
            rw [hlen] at eo
            cases eo
            have GB := Aside0.mk gb
            obtain ⟨hx, hf⟩ := Kd.R_celln 0 HRj.out (j : Int) (by omega) (by omega)
            have HP := Kd.R_putg HRj.out (j : Int) (wrap64 (-(rd (negP (y.take j) ++ y.drop j) (j : Int))))
            rw [show ((j : Int)).toNat = j from rfl, HSj.out] at HP
            have HPP := Aside0.mk HP
            have HOK := Aside0.mk (HRj.out.1 go rfl)
            clear gb gl cl hG HP hlen
            rw [show ((j : Int)).toNat = j from rfl] at hx hf
            replace hx : wr.cell? ⟨go, j, none⟩ = some (.int .i64 (rd (negP (y.take j) ++ y.drop j) (j : Int))) := hx
            generalize rd (negP (y.take j) ++ y.drop j) (j : Int) = zj at hx HPP
            go_wp2
            have HRn := Aside0.mk (show Kd.R (Kd.int .i64) 3 (wr.setCell ⟨go, j, none⟩ (.int .i64 (wrap64 (-zj)))) w3.heap.size oki (.slice (some ⟨go, 0, none⟩) y.length ce) (negP (y.take (j + 1)) ++ y.drop (j + 1)) from HPP.out.1)
            have HBn := Aside0.mk (show Below w.heap.size w (wr.setCell ⟨go, j, none⟩ (.int .i64 (wrap64 (-zj)))) from below_set HBj.out (by have z_ := GB.out; have z0_ := sw1.out; have z1_ := sw2.out; have z2_ := sw3.out; have z3_ := sw4.out; have z4_ := sw5.out; have z5_ := sw6.out; have z6_ := lg2.out; have z7_ := ug2.out; have z8_ := lg4.out; have z9_ := ug4.out; omega))
            have HKn := Aside0.mk (show Kept wo (wr.setCell ⟨go, j, none⟩ (.int .i64 (wrap64 (-zj)))) oki from Kept.then_ HKj.out (Kept.setCell (S := oki) (Kept.refl _ _) (p := ⟨go, j, none⟩) (.inl HOK.out) _) (fun k h => Or.inl h))
            go_roundg (y.length - (j + 1))
            case measure => have := HGj.out; omega
            case rel => exact ⟨j + 1, by go_num, ⟨by omega⟩, HRn, HBn, HKn⟩
          · have hjz : ¬ (j : Int) < (y.length : Int) := by omega
            have : j = y.length := by have := HGj.out; omega
            subst this
            go_wp2
            go_roundg (b.length - (i + 1))
            case measure => have := HG.out; omega
            case rel => exact ⟨i + 1, by go_num, ⟨by omega⟩, ⟨by
              have h1 := Kd.H_kept HH.out HKj.out (fun _ _ hn => hn)
              have h2 := Kd.H_back h1 (x' := negP y) (okp := oki) ⟨_, rfl, by have q := HRj.out; rwa [List.take_of_length_le (Nat.le_refl _), List.drop_of_length_le (Nat.le_refl _), List.append_nil] at q⟩ (fun _ h => h)
              rw [show ((i : Int)).toNat = i from rfl, HSET.out] at h2
              exact ⟨h2, Nat.le_trans HHI.out HKj.out.1⟩⟩, HBj, ⟨Kept.then_ HK.out HKj.out (fun k h => .inl (HK1.out k h).1)⟩⟩
      · have hltz : ¬ (i : Int) < (b.length : Int) := by omega
        have : i = b.length := by have := HG.out; omega
        subst this
        replace F1 := Aside0.mk (F1.out.kept HK.out (fun k h1_ h2_ => by have y1_ := h1_.2; have y2_ := h2_.1; omega))
        replace BKg2 := Aside0.mk (blk_kept BKg2.out HK.out (fun h2_ => by have y2_ := h2_.1; have z0_ := sw1.out; have z1_ := sw2.out; have z2_ := sw3.out; have z3_ := sw4.out; have z4_ := sw5.out; have z5_ := sw6.out; have z6_ := lg2.out; have z7_ := ug2.out; have z8_ := lg4.out; have z9_ := ug4.out; omega))
        replace BKg4 := Aside0.mk (blk_kept BKg4.out HK.out (fun h2_ => by have y2_ := h2_.2; have z0_ := sw1.out; have z1_ := sw2.out; have z2_ := sw3.out; have z3_ := sw4.out; have z4_ := sw5.out; have z5_ := sw6.out; have z6_ := lg2.out; have z7_ := ug2.out; have z8_ := lg4.out; have z9_ := ug4.out; omega))
        have hq0 : wo.cell? ⟨g4, 0, none⟩ = some (.slice B1 a.length e1) := (blk_cell BKg4.out 0).trans rfl
        have hq1 : wo.cell? ⟨g4, 1, none⟩ = some (.slice B2 b.length e2) := (blk_cell BKg4.out 1).trans rfl
        have hq2 : wo.cell? ⟨g2, 0, none⟩ = some (.slice none 0 0) := (blk_cell BKg2.out 0).trans rfl
        have hq3 : wo.cell? ⟨g2, 1, none⟩ = some (.slice none 0 0) := (blk_cell BKg2.out 1).trans rfl
        have hq4 := blk_frozen BKg2.out 0
        have hq5 := blk_frozen BKg2.out 1
        have HO2 := Aside0.mk (show OS wo w3.heap.size w4.heap.size (.slice B2 b.length e2) (negS b) by have q := HO.out; rwa [List.take_of_length_le (Nat.le_refl _), List.drop_of_length_le (Nat.le_refl _), List.append_nil] at q)
        replace HB := HBr
        go_wp2_with (first | ((with_reducible refine gate_store (t := 33) (p := 2) (v := .tmp 39) rfl ?_); refine store_event (t := 33) (p := 2) (v := .tmp 39) (w1 := (wo.setCell ⟨g2, 0, none⟩ (.slice B1 a.length e1)).setCell ⟨g2, 1, none⟩ (.slice B2 b.length e2)) ?hg ?ho ?hn ?hr ?_; (case ho => rfl); (case hg => rfl); (case hn => rfl); (case hr => first | (go_simp; done) | (go_simp; rfl)); intro w8 hw_; obtain ⟨hbk, hk, hk1⟩ := store_two BKg2.out hw_; clear hw_; replace F1 := Aside0.mk (F1.out.kept hk (fun k h1_ h2_ => by have y1_ := h1_.1; have y3_ : k = g2 := h2_; have z0_ := sw1.out; have z1_ := sw2.out; have z2_ := sw3.out; have z3_ := sw4.out; have z4_ := sw5.out; have z5_ := sw6.out; have z6_ := lg2.out; have z7_ := ug2.out; have z8_ := lg4.out; have z9_ := ug4.out; omega)); replace HO2 := Aside0.mk (HO2.out.kept hk (fun k h1_ h2_ => by have y1_ := h1_.1; have y3_ : k = g2 := h2_; have z0_ := sw1.out; have z1_ := sw2.out; have z2_ := sw3.out; have z3_ := sw4.out; have z4_ := sw5.out; have z5_ := sw6.out; have z6_ := lg2.out; have z7_ := ug2.out; have z8_ := lg4.out; have z9_ := ug4.out; omega)); have sw8 := Aside0.mk (show wo.heap.size ≤ w8.heap.size from hk.1); replace HB := Aside0.mk (store_below HB.out hk1 (by have z0_ := sw1.out; have z1_ := sw2.out; have z2_ := sw3.out; have z3_ := sw4.out; have z4_ := sw5.out; have z5_ := sw6.out; have z6_ := lg2.out; have z7_ := ug2.out; have z8_ := lg4.out; have z9_ := ug4.out; omega)); replace BKg2 := Aside0.mk hbk; clear hk hk1 hbk))
        refine bodyPost_ret (results_ct rfl _ _ g2 33 #[.slice B1 a.length e1, .slice B2 b.length e2] (0, 0) _ rfl BKg2.out Try.underlying33 rfl (by kernel_rfl)) rfl ?_
        refine ⟨_, _, rfl, Kd.S_mono (Kd.S_lower F1.out.1 (by have z0_ := sw1.out; have z1_ := sw2.out; have z2_ := sw3.out; have z3_ := sw4.out; have z4_ := sw5.out; have z5_ := sw6.out; have z6_ := lg2.out; have z7_ := ug2.out; have z8_ := lg4.out; have z9_ := ug4.out; omega)) (fun _ _ => trivial), ?_, HB.out⟩
        have hl_ : (negS b).length = b.length := by simp [negS]
        exact Kd.S_mono (Kd.S_lower HO2.out.1 (by have z0_ := sw1.out; have z1_ := sw2.out; have z2_ := sw3.out; have z3_ := sw4.out; have z4_ := sw5.out; have z5_ := sw6.out; have z6_ := lg2.out; have z7_ := ug2.out; have z8_ := lg4.out; have z9_ := ug4.out; omega)) (fun _ _ => trivial)
end Go.Proofs.Yteikfmoklpokhaa.Own

