/- ZeroSum: both sides give a copy of the table and its negative. -/
import Derived.Test.YteikfmoklpokhaaQZx0
import Derived.Test.YteikfmoklpokhaaQZx4
import Derived.Test.YteikfmoklpokhaaQZx2
import Derived.Test.YteikfmoklpokhaaQZEqsR
import Derived.Test.YteikfmoklpokhaaQZGame
import Derived.Test.YteikfmoklpokhaaQZOwn
import Derived.Test.YteikfmoklpokhaaQZOwnWi
import Derived.Test.YteikfmoklpokhaaQZOwnZ
import Derived.Test.YteikfmoklpokhaaQZTurned
import Derived.Test.YteikfmoklpokhaaQZEqs
namespace Go.Proofs.Yteikfmoklpokhaa.Games
open Go.RowKit Go.Proofs.Yteikfmoklpokhaa.All Go.Proofs.Yteikfmoklpokhaa.Eqs Go.Proofs.Yteikfmoklpokhaa.L1 Go.Proofs.Yteikfmoklpokhaa.Own Go.Proofs.YteikfmoklpokhaaW.PrintWords Go.Proofs.YteikfmoklpokhaaW.PrintLast
def same1 (x : Int) : Int := x
def neg1 (x : Int) : Int := wrap64 (-x)
theorem impl_copyP_l1 (c : List (List Int)) (l : List Int) (hl : l.length ≤ 1000) (out R : List (List Int)) (ho : out.length ≤ 1000) (i : Nat) (hi : i < 1000) (m : Int) (hfin : Ev (fun k => impl_copyP.l0 k (out ++ [l.map same1]) c m ((i + 1 : Nat) : Int)) R) (d : Nat) :
    ∀ (j : Nat), j + d = l.length → Ev (fun k => impl_copyP.l1 k out ((l.take j).map same1) c m i l (l.length : Int) j) R := by
  induction d with
  | zero =>
    intro j hj
    rw [List.take_of_length_le (by omega)]
    exact Ev.step (fun k => by simp only [impl_copyP.l1]; rw [if_neg (by omega), if_pos (by omega), upI (by omega)]) hfin
  | succ d ih =>
    intro j hj
    have h1 : j < l.length := by omega
    have hcl : ((l.take j).map same1).length = j := by simp; omega
    have hs : (l.take (j + 1)).map same1 = (l.take j).map same1 ++ [same1 (rd l (j : Int))] := by
      rw [List.take_succ_eq_append_getElem h1, List.map_append, show rd l (j : Int) = l[j] by simp [rd, List.getD, List.getElem?_eq_getElem h1]]
      rfl
    have := ih (j + 1) (by omega)
    rw [hs] at this
    exact Ev.step (fun k => by
      simp only [impl_copyP.l1]
      rw [if_pos (by omega), if_pos (by omega), if_pos (by omega), show impl_plain.f (j : Int) (rd l (j : Int)) = some (same1 (rd l (j : Int))) from rfl, Option.bind_some, if_pos (by omega), upI (by omega)]) this
theorem impl_copyP_l0 (c : List (List Int)) (hl : c.length ≤ 1000) (hr : ∀ r ∈ c, r.length ≤ 1000) (d : Nat) : ∀ (i : Nat), i + d = c.length → Ev (fun k => impl_copyP.l0 k ((c.take i).map fun l => l.map same1) c (c.length : Int) i) (c.map fun l => l.map same1) := by
  induction d with
  | zero =>
    intro i hi
    rw [List.take_of_length_le (by omega)]
    exact Ev.step (fun k => by simp only [impl_copyP.l0]; rw [if_neg (by omega)]) (Ev.now _)
  | succ d ih =>
    intro i hi
    have h1 : i < c.length := by omega
    have hs : (c.take (i + 1)).map (fun l => l.map same1) = (c.take i).map (fun l => l.map same1) ++ [c[i].map same1] := by
      rw [List.take_succ_eq_append_getElem h1, List.map_append]
      rfl
    have := ih (i + 1) (by omega)
    rw [hs] at this
    exact Ev.step (fun k => by
      simp only [impl_copyP.l0]
      rw [if_pos (by omega), if_pos (by omega), if_pos (by omega), show rd_L1 c (i : Int) = c[i] by simp [rd_L1, List.getD, List.getElem?_eq_getElem h1]]; rfl) (impl_copyP_l1 c c[i] (hr _ (List.getElem_mem h1)) _ _ (by simp; omega) i (by omega) _ this c[i].length 0 (by omega))
theorem impl_copyZ_l1 (c : List (List Int)) (l : List Int) (hl : l.length ≤ 1000) (out R : List (List Int)) (ho : out.length ≤ 1000) (i : Nat) (hi : i < 1000) (m : Int) (hfin : Ev (fun k => impl_copyZ.l0 k (out ++ [l.map neg1]) c m ((i + 1 : Nat) : Int)) R) (d : Nat) :
    ∀ (j : Nat), j + d = l.length → Ev (fun k => impl_copyZ.l1 k out ((l.take j).map neg1) c m i l (l.length : Int) j) R := by
  induction d with
  | zero =>
    intro j hj
    rw [List.take_of_length_le (by omega)]
    exact Ev.step (fun k => by simp only [impl_copyZ.l1]; rw [if_neg (by omega), if_pos (by omega), upI (by omega)]) hfin
  | succ d ih =>
    intro j hj
    have h1 : j < l.length := by omega
    have hcl : ((l.take j).map neg1).length = j := by simp; omega
    have hs : (l.take (j + 1)).map neg1 = (l.take j).map neg1 ++ [neg1 (rd l (j : Int))] := by
      rw [List.take_succ_eq_append_getElem h1, List.map_append, show rd l (j : Int) = l[j] by simp [rd, List.getD, List.getElem?_eq_getElem h1]]
      rfl
    have := ih (j + 1) (by omega)
    rw [hs] at this
    exact Ev.step (fun k => by
      simp only [impl_copyZ.l1]
      rw [if_pos (by omega), if_pos (by omega), if_pos (by omega), show impl_ZeroSum_1.f (j : Int) (rd l (j : Int)) = some (neg1 (rd l (j : Int))) from rfl, Option.bind_some, if_pos (by omega), upI (by omega)]) this
theorem impl_copyZ_l0 (c : List (List Int)) (hl : c.length ≤ 1000) (hr : ∀ r ∈ c, r.length ≤ 1000) (d : Nat) : ∀ (i : Nat), i + d = c.length → Ev (fun k => impl_copyZ.l0 k ((c.take i).map fun l => l.map neg1) c (c.length : Int) i) (c.map fun l => l.map neg1) := by
  induction d with
  | zero =>
    intro i hi
    rw [List.take_of_length_le (by omega)]
    exact Ev.step (fun k => by simp only [impl_copyZ.l0]; rw [if_neg (by omega)]) (Ev.now _)
  | succ d ih =>
    intro i hi
    have h1 : i < c.length := by omega
    have hs : (c.take (i + 1)).map (fun l => l.map neg1) = (c.take i).map (fun l => l.map neg1) ++ [c[i].map neg1] := by
      rw [List.take_succ_eq_append_getElem h1, List.map_append]
      rfl
    have := ih (i + 1) (by omega)
    rw [hs] at this
    exact Ev.step (fun k => by
      simp only [impl_copyZ.l0]
      rw [if_pos (by omega), if_pos (by omega), if_pos (by omega), show rd_L1 c (i : Int) = c[i] by simp [rd_L1, List.getD, List.getElem?_eq_getElem h1]]; rfl) (impl_copyZ_l1 c c[i] (hr _ (List.getElem_mem h1)) _ _ (by simp; omega) i (by omega) _ this c[i].length 0 (by omega))
theorem same_all (c : List (List Int)) : (c.map fun l => l.map same1) = c := by
  have : (fun l : List Int => l.map same1) = id := by funext l; exact (List.map_congr_left (fun _ _ => rfl)).trans (List.map_id l)
  rw [this, List.map_id]
theorem gmOwn_l0 (c : List (List Int)) (hl : c.length ≤ 1000) (hr : ∀ r ∈ c, r.length ≤ 1000) (d : Nat) : ∀ (i : Nat), i + d = c.length → Ev (fun k => spec_gmOwn.l0 k (c.take i) c (c.length : Int) i) c := by
  induction d with
  | zero =>
    intro i hi
    rw [List.take_of_length_le (by omega)]
    exact Ev.step (fun k => by simp only [spec_gmOwn.l0]; rw [if_neg (by omega)]) (Ev.now _)
  | succ d ih =>
    intro i hi
    have h1 : i < c.length := by omega
    have hh := hr _ (List.getElem_mem h1)
    have := ih (i + 1) (by omega)
    rw [List.take_succ_eq_append_getElem h1] at this
    have ho : spec_l1Own.f c[i] = some c[i] := by unfold spec_l1Own.f; rw [Option.bind_some, if_pos (by simp; omega)]; rfl
    have hcl : (c.take i).length = i := by simp; omega
    exact Ev.step (fun k => by
      simp only [spec_gmOwn.l0]
      rw [if_pos (by omega), if_pos (by omega), if_pos (by omega), show rd_L1 c (i : Int) = c[i] by simp [rd_L1, List.getD, List.getElem?_eq_getElem h1], ho, Option.bind_some, if_pos (by omega), upI (by omega)]) this
theorem zeroSum_same (a : List (List Int)) (ha : Small a) : ∃ r1 r2 t, Small r1 ∧ Small r2 ∧ ∃ K, ∀ k, K ≤ k → spec_ZeroSum.f k a = some (r1, r2, t) ∧ impl_ZeroSum.f k a = some (r1, r2, t) := by
  have h1 : Ev (fun k => spec_gmRows.f k a) (table a) := ⟨2097201, fun k hk => spec_table a ha k (by omega)⟩
  have h2 : ∀ k, impl_ZeroSum.f k a = (some (table a)).bind fun t => if t = true then ((impl_copyP.f k a 0).bind fun x => (impl_copyZ.f k a 0).bind fun y => some (x, y, true)) else some ([], [], false) := fun k => by unfold impl_ZeroSum.f; rw [impl_table]
  cases e : table a with
  | false =>
    rw [e] at h1
    refine ⟨[], [], false, ⟨by simp, by simp⟩, ⟨by simp, by simp⟩, both2 (Ev.congr (fun k => by unfold spec_ZeroSum.f; rfl) (Ev.bind h1 ?_)) (Ev.congr h2 ?_)⟩
    · exact Ev.now _
    · rw [e]; exact Ev.now _
  | true =>
    rw [e] at h1
    obtain ⟨a0, a1, a2, a3, a4⟩ := table_is e
    have hr : ∀ r ∈ a, r.length ≤ 1000 := fun r hr => by have := (a4 r hr).1; omega
    have s1 : Ev (fun k => spec_gmOwn.f k a) a := gmOwn_l0 a (by omega) hr a.length 0 (by omega)
    have i1 : Ev (fun k => impl_copyP.f k a 0) a := by have := impl_copyP_l0 a (by omega) hr a.length 0 (by omega); rw [same_all a] at this; exact this
    have i2 : Ev (fun k => impl_copyZ.f k a 0) (negS a) := impl_copyZ_l0 a (by omega) hr a.length 0 (by omega)
    refine ⟨a, negS a, true, ha, ⟨by unfold negS; simp; omega, fun r hr' => ?_⟩, both2 (Ev.congr (fun k => by unfold spec_ZeroSum.f; rfl) (Ev.bind h1 (Ev.congr (fun k => by rw [if_pos rfl]) (Ev.bind s1 (Ev.bind s1 (Ev.now (a, negS a, true))))))) (Ev.congr h2 ?_)⟩
    · unfold negS at hr'
      obtain ⟨r0, h0, rfl⟩ := List.mem_map.mp hr'
      have := hr r0 h0
      unfold negP; simp; omega
    · rw [e]
      exact Ev.congr (fun k => by rw [Option.bind_some, if_pos rfl]) (Ev.bind i1 (Ev.bind i2 (Ev.now (a, negS a, true))))
end Go.Proofs.Yteikfmoklpokhaa.Games

