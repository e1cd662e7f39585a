/- AddToColumn: both sides give a copy of the game in which a number is added to each number of a column. -/
import Derived.Test.YteikfmoklpokhaaQAx0
import Derived.Test.YteikfmoklpokhaaQAx5
import Derived.Test.YteikfmoklpokhaaQAx1
import Derived.Test.YteikfmoklpokhaaQAx6
import Derived.Test.YteikfmoklpokhaaQAx2
import Derived.Test.YteikfmoklpokhaaQAx4
import Derived.Test.YteikfmoklpokhaaQAEqs
import Derived.Test.YteikfmoklpokhaaQAEqsR
import Derived.Test.YteikfmoklpokhaaQAGame
import Derived.Test.YteikfmoklpokhaaQAL1
import Derived.Test.YteikfmoklpokhaaQAOwn
import Derived.Test.YteikfmoklpokhaaQAOwnZs
import Derived.Test.YteikfmoklpokhaaQATurned
namespace Go.Proofs.Yteikfmoklpokhaa.Games
open Go.RowKit Go.Proofs.Yteikfmoklpokhaa.All Go.Proofs.Yteikfmoklpokhaa.Eqs Go.Proofs.Yteikfmoklpokhaa.L1 Go.Proofs.Yteikfmoklpokhaa.Own Go.Proofs.YteikfmoklpokhaaW.PrintWords Go.Proofs.YteikfmoklpokhaaW.PrintLast
def same1 (x : Int) : Int := x
theorem copyP_l1 (c : List (List Int)) (l : List Int) (hl : l.length ≤ 1000) (out R : List (List Int)) (ho : out.length ≤ 1000) (i : Nat) (hi : i < 1000) (m : Int) (hfin : Ev (fun k => impl_copyP.l0 k (out ++ [l.map same1]) c m ((i + 1 : Nat) : Int)) R) (d : Nat) :
    ∀ (j : Nat), j + d = l.length → Ev (fun k => impl_copyP.l1 k out ((l.take j).map same1) c m i l (l.length : Int) j) R := by
  induction d with
  | zero =>
    intro j hj
    rw [List.take_of_length_le (by omega)]
    exact Ev.step (fun k => by simp only [impl_copyP.l1]; rw [if_neg (by omega), if_pos (by omega), upI (by omega)]) hfin
  | succ d ih =>
    intro j hj
    have h1 : j < l.length := by omega
    have hcl : ((l.take j).map same1).length = j := by simp; omega
    have hs : (l.take (j + 1)).map same1 = (l.take j).map same1 ++ [same1 (rd l (j : Int))] := by
      rw [List.take_succ_eq_append_getElem h1, List.map_append, show rd l (j : Int) = l[j] by simp [rd, List.getD, List.getElem?_eq_getElem h1]]
      rfl
    have := ih (j + 1) (by omega)
    rw [hs] at this
    exact Ev.step (fun k => by
      simp only [impl_copyP.l1]
      rw [if_pos (by omega), if_pos (by omega), if_pos (by omega), show impl_plain.f (j : Int) (rd l (j : Int)) = some (same1 (rd l (j : Int))) from rfl, Option.bind_some, if_pos (by omega), upI (by omega)]) this
theorem copyP_l0 (c : List (List Int)) (hl : c.length ≤ 1000) (hr : ∀ r ∈ c, r.length ≤ 1000) (d : Nat) : ∀ (i : Nat), i + d = c.length → Ev (fun k => impl_copyP.l0 k ((c.take i).map fun l => l.map same1) c (c.length : Int) i) (c.map fun l => l.map same1) := by
  induction d with
  | zero =>
    intro i hi
    rw [List.take_of_length_le (by omega)]
    exact Ev.step (fun k => by simp only [impl_copyP.l0]; rw [if_neg (by omega)]) (Ev.now _)
  | succ d ih =>
    intro i hi
    have h1 : i < c.length := by omega
    have hs : (c.take (i + 1)).map (fun l => l.map same1) = (c.take i).map (fun l => l.map same1) ++ [c[i].map same1] := by
      rw [List.take_succ_eq_append_getElem h1, List.map_append]
      rfl
    have := ih (i + 1) (by omega)
    rw [hs] at this
    exact Ev.step (fun k => by
      simp only [impl_copyP.l0]
      rw [if_pos (by omega), if_pos (by omega), if_pos (by omega), show rd_L1 c (i : Int) = c[i] by simp [rd_L1, List.getD, List.getElem?_eq_getElem h1]]; rfl) (copyP_l1 c c[i] (hr _ (List.getElem_mem h1)) _ _ (by simp; omega) i (by omega) _ this c[i].length 0 (by omega))
theorem same_all (c : List (List Int)) : (c.map fun l => l.map same1) = c := by
  have : (fun l : List Int => l.map same1) = id := by funext l; exact (List.map_congr_left (fun _ _ => rfl)).trans (List.map_id l)
  rw [this, List.map_id]
/-- A row, numbered from i on, with k added at place j. -/
def addF (j k : Int) : Nat → List Int → List Int
  | _, [] => []
  | i, x :: xs => (if (i : Int) = j then wrap64 (x + k) else x) :: addF j k (i + 1) xs
theorem addF_append (j k : Int) : ∀ (l : List Int) (i : Nat) (x : Int), addF j k i (l ++ [x]) = addF j k i l ++ [if ((i + l.length : Nat) : Int) = j then wrap64 (x + k) else x]
  | [], i, x => by simp [addF]
  | y :: l, i, x => by
    simp only [List.cons_append, addF, addF_append j k l (i + 1) x, List.length_cons]
    rw [show i + 1 + l.length = i + (l.length + 1) by omega]
theorem addF_length (j k : Int) : ∀ (l : List Int) (i : Nat), (addF j k i l).length = l.length
  | [], _ => rfl
  | y :: l, i => by simp [addF, addF_length j k l (i + 1)]
theorem addF_past (j k : Int) : ∀ (l : List Int) (i : Nat), j < (i : Int) → addF j k i l = l
  | [], _, _ => rfl
  | y :: l, i, h => by simp only [addF]; rw [if_neg (by omega), addF_past j k l (i + 1) (by omega)]
theorem addF_set (j k : Int) : ∀ (l : List Int) (i : Nat), (i : Int) ≤ j → addF j k i l = l.set (j.toNat - i) (wrap64 (l.getD (j.toNat - i) 0 + k))
  | [], _, _ => rfl
  | y :: l, i, h => by
    simp only [addF]
    by_cases c : (i : Int) = j
    · rw [if_pos c, addF_past j k l (i + 1) (by omega), show j.toNat - i = 0 by omega]; rfl
    · rw [if_neg c, addF_set j k l (i + 1) (by omega), show j.toNat - i = (j.toNat - (i + 1)) + 1 by omega]; rfl
theorem addF_row (j k : Int) (h : 0 ≤ j) (l : List Int) : addF j k 0 l = addRow j k l := by
  rw [addF_set j k l 0 (by omega)]; rfl
theorem copyK_l1 (a1 a2 : Int) (c : List (List Int)) (l : List Int) (hl : l.length ≤ 1000) (out R : List (List Int)) (ho : out.length ≤ 1000) (i : Nat) (hi : i < 1000) (m : Int) (hfin : Ev (fun k => impl_copyK.l0 a1 a2 k (out ++ [addF a1 a2 0 l]) c m ((i + 1 : Nat) : Int)) R) (d : Nat) :
    ∀ (j : Nat), j + d = l.length → Ev (fun k => impl_copyK.l1 a1 a2 k out (addF a1 a2 0 (l.take j)) c m i l (l.length : Int) j) R := by
  induction d with
  | zero =>
    intro j hj
    rw [List.take_of_length_le (by omega)]
    exact Ev.step (fun k => by simp only [impl_copyK.l1]; rw [if_neg (by omega), if_pos (by omega), upI (by omega)]) hfin
  | succ d ih =>
    intro j hj
    have h1 : j < l.length := by omega
    have hcl : (addF a1 a2 0 (l.take j)).length = j := by rw [addF_length]; simp; omega
    have hs : addF a1 a2 0 (l.take (j + 1)) = addF a1 a2 0 (l.take j) ++ [if (j : Int) = a1 then wrap64 (rd l (j : Int) + a2) else rd l (j : Int)] := by
      rw [List.take_succ_eq_append_getElem h1, addF_append, show rd l (j : Int) = l[j] by simp [rd, List.getD, List.getElem?_eq_getElem h1], show 0 + (l.take j).length = j by simp; omega]
    have := ih (j + 1) (by omega)
    rw [hs] at this
    exact Ev.step (fun k => by
      simp only [impl_copyK.l1]
      rw [if_pos (by omega), if_pos (by omega), if_pos (by omega), show addAt.f a1 a2 (j : Int) (rd l (j : Int)) = some (if (j : Int) = a1 then wrap64 (rd l (j : Int) + a2) else rd l (j : Int)) from rfl, Option.bind_some, if_pos (by omega), upI (by omega)]) this
theorem copyK_l0 (a1 a2 : Int) (c : List (List Int)) (hl : c.length ≤ 1000) (hr : ∀ r ∈ c, r.length ≤ 1000) (d : Nat) : ∀ (i : Nat), i + d = c.length → Ev (fun k => impl_copyK.l0 a1 a2 k ((c.take i).map fun l => addF a1 a2 0 l) c (c.length : Int) i) (c.map fun l => addF a1 a2 0 l) := by
  induction d with
  | zero =>
    intro i hi
    rw [List.take_of_length_le (by omega)]
    exact Ev.step (fun k => by simp only [impl_copyK.l0]; rw [if_neg (by omega)]) (Ev.now _)
  | succ d ih =>
    intro i hi
    have h1 : i < c.length := by omega
    have hs : (c.take (i + 1)).map (fun l => addF a1 a2 0 l) = (c.take i).map (fun l => addF a1 a2 0 l) ++ [addF a1 a2 0 c[i]] := by
      rw [List.take_succ_eq_append_getElem h1, List.map_append]
      rfl
    have := ih (i + 1) (by omega)
    rw [hs] at this
    exact Ev.step (fun k => by
      simp only [impl_copyK.l0]
      rw [if_pos (by omega), if_pos (by omega), if_pos (by omega), show rd_L1 c (i : Int) = c[i] by simp [rd_L1, List.getD, List.getElem?_eq_getElem h1]]; rfl) (copyK_l1 a1 a2 c c[i] (hr _ (List.getElem_mem h1)) _ _ (by simp; omega) i (by omega) _ this c[i].length 0 (by omega))
theorem gmOwn_l0 (c : List (List Int)) (hl : c.length ≤ 1000) (hr : ∀ r ∈ c, r.length ≤ 1000) (d : Nat) : ∀ (i : Nat), i + d = c.length → Ev (fun k => spec_gmOwn.l0 k (c.take i) c (c.length : Int) i) c := by
  induction d with
  | zero =>
    intro i hi
    rw [List.take_of_length_le (by omega)]
    exact Ev.step (fun k => by simp only [spec_gmOwn.l0]; rw [if_neg (by omega)]) (Ev.now _)
  | succ d ih =>
    intro i hi
    have h1 : i < c.length := by omega
    have hh := hr _ (List.getElem_mem h1)
    have := ih (i + 1) (by omega)
    rw [List.take_succ_eq_append_getElem h1] at this
    have ho : spec_l1Own.f c[i] = some c[i] := by unfold spec_l1Own.f; rw [Option.bind_some, if_pos (by simp; omega)]; rfl
    have hcl : (c.take i).length = i := by simp; omega
    exact Ev.step (fun k => by
      simp only [spec_gmOwn.l0]
      rw [if_pos (by omega), if_pos (by omega), if_pos (by omega), show rd_L1 c (i : Int) = c[i] by simp [rd_L1, List.getD, List.getElem?_eq_getElem h1], ho, Option.bind_some, if_pos (by omega), upI (by omega)]) this
theorem l1In_is (x lo hi : Int) : spec_l1In.f x lo hi = some (inB lo hi x) := by
  unfold spec_l1In.f inB
  by_cases h : x ≥ lo
  · rw [if_pos h]; simp [h]
  · rw [if_neg h]; simp [h]
theorem addS_small {a : List (List Int)} (h : Small a) (j k : Int) : Small (addS j k a) := by
  refine ⟨by simpa [addS] using h.1, fun r hr => ?_⟩
  obtain ⟨r0, h0, rfl⟩ := List.mem_map.mp hr
  simpa [addRow] using h.2 r0 h0
theorem addToColumn_same (a b : List (List Int)) (j k0 : Int) (ha : Small a) (hb : Small b) : ∃ r1 r2 t, Small r1 ∧ Small r2 ∧ ∃ K, ∀ k, K ≤ k → spec_AddToColumn.f k a b j k0 = some (r1, r2, t) ∧ impl_AddToColumn.f k a b j k0 = some (r1, r2, t) := by
  have h1 : Ev (fun k => spec_gmGood.f k a b) (game a b) := ⟨2097201, fun k hk => spec_game a b ha hb k (by omega)⟩
  have none_ : ∀ (P Q : Nat → Option (List (List Int) × List (List Int) × Bool)), Ev P ([], [], false) → Ev Q ([], [], false) → ∃ r1 r2 t, Small r1 ∧ Small r2 ∧ ∃ K, ∀ k, K ≤ k → P k = some (r1, r2, t) ∧ Q k = some (r1, r2, t) := fun P Q hp hq => ⟨[], [], false, ⟨by simp, by simp⟩, ⟨by simp, by simp⟩, both2 hp hq⟩
  cases e : game a b with
  | false =>
    rw [e] at h1
    refine none_ _ _ (Ev.congr (fun k => by unfold spec_AddToColumn.f; rfl) (Ev.bind h1 (Ev.congr (fun k => by rw [if_neg (by decide)]) (Ev.step (fun k => rfl) (Ev.now _))))) (Ev.congr (fun k => by unfold impl_AddToColumn.f; rw [impl_game, e, Option.bind_some, if_neg (by decide)]) (Ev.step (fun k => rfl) (Ev.now _)))
  | true =>
    rw [e] at h1
    have e' := e
    unfold game at e'
    simp only [Bool.and_eq_true, decide_eq_true_eq] at e'
    obtain ⟨t1, t2, e3, e4⟩ := e'
    obtain ⟨a0, a1, a2, a3, a4⟩ := table_is t1
    obtain ⟨b0, b1, b2, b3, b4⟩ := table_is t2
    have hra : ∀ r ∈ a, r.length ≤ 1000 := fun r hr => by have := (a4 r hr).1; omega
    have hrb : ∀ r ∈ b, r.length ≤ 1000 := fun r hr => by have := (b4 r hr).1; omega
    have hn : (rd_L1 a 0).length = (a.getD 0 []).length := rfl
    have hw : wrap64 (((rd_L1 a 0).length : Int) - 1) = ((a.getD 0 []).length : Int) - 1 := by rw [hn, wrap_id (by omega) (by omega)]
    have hin : impl_Game_n.f a b = some ((a.getD 0 []).length : Int) := by unfold impl_Game_n.f; rw [if_pos (by omega)]; rfl
    cases e1 : inB 0 (((a.getD 0 []).length : Int) - 1) j with
    | false =>
      refine none_ _ _ (Ev.congr (fun k => by unfold spec_AddToColumn.f; rfl) (Ev.bind h1 (Ev.congr (fun k => by rw [if_pos rfl, if_pos (by omega), hw, l1In_is, e1, Option.bind_some, if_neg (by decide)]) (Ev.step (fun k => rfl) (Ev.now _))))) (Ev.congr (fun k => by unfold impl_AddToColumn.f; rw [impl_game, e, Option.bind_some, if_pos rfl, hin, Option.bind_some, wrap_id (by omega) (by omega), in_is, e1, Option.bind_some, if_neg (by decide)]) (Ev.step (fun k => rfl) (Ev.now _)))
    | true =>
      cases e2 : inB (-20) 20 k0 with
      | false =>
        refine none_ _ _ (Ev.congr (fun k => by unfold spec_AddToColumn.f; rfl) (Ev.bind h1 (Ev.congr (fun k => by rw [if_pos rfl, if_pos (by omega), hw, l1In_is, e1, Option.bind_some, if_pos rfl, l1In_is, e2, Option.bind_some]) (Ev.step (fun k => rfl) (Ev.now _))))) (Ev.congr (fun k => by unfold impl_AddToColumn.f; rw [impl_game, e, Option.bind_some, if_pos rfl, hin, Option.bind_some, wrap_id (by omega) (by omega), in_is, e1, Option.bind_some, if_pos rfl, in_is, e2, Option.bind_some]) (Ev.step (fun k => rfl) (Ev.now _)))
      | true =>
        have hj : 0 ≤ j ∧ j ≤ ((a.getD 0 []).length : Int) - 1 := by simpa [inB] using e1
        have hall : addAll j a = true := by
          refine List.all_eq_true.mpr fun r hr => ?_
          have := (a4 r hr).1
          simp; omega
        have sa : Ev (fun k => spec_gmOwn.f k a) a := gmOwn_l0 a (by omega) hra a.length 0 (by omega)
        have sb : Ev (fun k => spec_gmOwn.f k b) b := gmOwn_l0 b (by omega) hrb b.length 0 (by omega)
        have sg : Ev (fun k => spec_addGood.f k j k0 a b) (game (addS j k0 a) b) := ⟨2097201, fun k hk => by show spec_addGood.f k j k0 a b = _; unfold spec_addGood.f; rw [if_pos hall]; exact spec_game _ b (addS_small ha j k0) hb k (by omega)⟩
        have ib : Ev (fun k => impl_copied_plain.f k b) b := by have := copyP_l0 b (by omega) hrb b.length 0 (by omega); rw [same_all b] at this; exact this
        have hfa : (a.map fun l => addF j k0 0 l) = addS j k0 a := List.map_congr_left fun l _ => addF_row j k0 hj.1 l
        have ia : Ev (fun k => impl_copied_add.f k a j k0) (addS j k0 a) := by have := copyK_l0 j k0 a (by omega) hra a.length 0 (by omega); rw [hfa] at this; exact this
        have S : ∀ R, Ev (fun k => (spec_gmOwn.f k a).bind fun x => (spec_gmOwn.f k b).bind fun y => (spec_addGood.f k j k0 x y).bind fun t => if t = true then some (addS j k0 x, y, true) else some ([], [], false)) R → Ev (fun k => spec_AddToColumn.f k a b j k0) R := fun R hR => Ev.congr (fun k => by unfold spec_AddToColumn.f; rfl) (Ev.bind h1 (Ev.congr (fun k => by rw [if_pos rfl, if_pos (by omega), hw, l1In_is, e1, Option.bind_some, if_pos rfl, l1In_is, e2, Option.bind_some]) (Ev.step (fun k => rfl) hR)))
        have I : ∀ R, Ev (fun k => (impl_copied_plain.f k b).bind fun y => (impl_copied_add.f k a j k0).bind fun x => (some (game x y)).bind fun t => if t = true then some (x, y, true) else some ([], [], false)) R → Ev (fun k => impl_AddToColumn.f k a b j k0) R := fun R hR => Ev.congr (fun k => by unfold impl_AddToColumn.f; rw [impl_game, e, Option.bind_some, if_pos rfl, hin, Option.bind_some, wrap_id (by omega) (by omega), in_is, e1, Option.bind_some, if_pos rfl, in_is, e2, Option.bind_some]) (Ev.step (fun k => by rw [show impl_AddToColumn.j0 (k + 1) (!true) a b j k0 = (impl_copied_plain.f k b).bind fun y => (impl_copied_add.f k a j k0).bind fun x => (impl_IsGame.f x y).bind fun t => if t = true then some (x, y, true) else some ([], [], false) from rfl]; simp only [impl_game]) hR)
        cases g : game (addS j k0 a) b with
        | false =>
          rw [g] at sg
          exact none_ _ _ (S _ (Ev.bind sa (Ev.bind sb (Ev.bind sg (Ev.now _))))) (I _ (Ev.bind ib (Ev.bind ia (by rw [g]; exact Ev.now _))))
        | true =>
          rw [g] at sg
          exact ⟨addS j k0 a, b, true, addS_small ha j k0, hb, both2 (S _ (Ev.bind sa (Ev.bind sb (Ev.bind sg (Ev.now (addS j k0 a, b, true)))))) (I _ (Ev.bind ib (Ev.bind ia (by rw [g]; exact Ev.now (addS j k0 a, b, true)))))⟩
end Go.Proofs.Yteikfmoklpokhaa.Games

