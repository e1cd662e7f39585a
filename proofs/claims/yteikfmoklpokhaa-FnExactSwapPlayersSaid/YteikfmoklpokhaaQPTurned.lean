/- Turned tables and swapped players: the reference and the program come to the same. -/
import Derived.Test.YteikfmoklpokhaaQPx0
import Derived.Test.YteikfmoklpokhaaQPx6
import Derived.Test.YteikfmoklpokhaaQPx3
import Derived.Test.YteikfmoklpokhaaQPx4
import Derived.Test.YteikfmoklpokhaaQPEqs
import Derived.Test.YteikfmoklpokhaaQPEqsR
import Derived.Test.YteikfmoklpokhaaQPGame
namespace Go.Proofs.Yteikfmoklpokhaa.Games
open Go.RowKit Go.Proofs.Yteikfmoklpokhaa.All Go.Proofs.Yteikfmoklpokhaa.Eqs Go.Proofs.Yteikfmoklpokhaa.L1 Go.Proofs.YteikfmoklpokhaaW.PrintWords Go.Proofs.YteikfmoklpokhaaW.PrintLast
theorem upI {i : Nat} (h : i < 1152921504606846976) : wrap64 ((i : Int) + 1) = ((i + 1 : Nat) : Int) := by rw [wrap_id (by omega) (by omega)]; rfl
/-! #### columns -/
def colP (c : List (List Int)) (j : Nat) : List Int := c.map fun r => r.getD j 0
def turnP (c : List (List Int)) (n : Nat) : List (List Int) := (List.range n).map (colP c)
theorem turnP_succ (c : List (List Int)) (n : Nat) : turnP c (n + 1) = turnP c n ++ [colP c n] := by simp [turnP, List.range_succ]
theorem column_l0 (c : List (List Int)) (j : Nat) (hl : c.length ≤ 1000) (hj : ∀ r ∈ c, j < r.length) (d : Nat) : ∀ (i : Nat), i + d = c.length → Ev (fun k => impl_column.l0 k j (colP (c.take i) j) c (c.length : Int) i) (colP c j) := by
  induction d with
  | zero =>
    intro i hi
    rw [List.take_of_length_le (by omega)]
    exact Ev.step (fun k => by simp only [impl_column.l0]; rw [if_neg (by omega)]) (Ev.now _)
  | succ d ih =>
    intro i hi
    have h1 : i < c.length := by omega
    have rj := hj _ (List.getElem_mem h1)
    have hcl : (colP (c.take i) j).length = i := by unfold colP; simp; omega
    have hs : colP (c.take (i + 1)) j = colP (c.take i) j ++ [rd c[i] (j : Int)] := by
      unfold colP
      rw [List.take_succ_eq_append_getElem h1, List.map_append]
      rfl
    have := ih (i + 1) (by omega)
    rw [hs] at this
    exact Ev.step (fun k => by
      simp only [impl_column.l0]
      rw [if_pos (by omega), if_pos (by omega), if_pos (by omega), show rd_L1 c (i : Int) = c[i] by simp [rd_L1, List.getD, List.getElem?_eq_getElem h1], if_pos (by omega), if_pos (by omega), if_pos (by omega), upI (by omega)]) this
theorem implColumn (c : List (List Int)) (j : Nat) (hl : c.length ≤ 1000) (hj : ∀ r ∈ c, j < r.length) : Ev (fun k => impl_column.f k c (j : Int)) (colP c j) := column_l0 c j hl hj c.length 0 (by omega)
theorem turned_l1 (c : List (List Int)) (n j : Nat) (hl : c.length ≤ 1000) (hj : ∀ r ∈ c, j < r.length) (hjn : j < 1000) (out R : List (List Int)) (ho : out.length ≤ 1000) (hfin : Ev (fun k => spec_gmTurned.l0 k c (out ++ [colP c j]) (n : Int) ((j + 1 : Nat) : Int)) R) (d : Nat) :
    ∀ (i : Nat), i + d = c.length → Ev (fun k => spec_gmTurned.l1 k c out j (colP (c.take i) j) (n : Int) j (c.length : Int) i) R := by
  induction d with
  | zero =>
    intro i hi
    rw [List.take_of_length_le (by omega)]
    exact Ev.step (fun k => by simp only [spec_gmTurned.l1]; rw [if_neg (by omega), if_pos (by omega), upI (by omega)]) hfin
  | succ d ih =>
    intro i hi
    have h1 : i < c.length := by omega
    have rj := hj _ (List.getElem_mem h1)
    have hcl : (colP (c.take i) j).length = i := by unfold colP; simp; omega
    have hs : colP (c.take (i + 1)) j = colP (c.take i) j ++ [rd c[i] (j : Int)] := by
      unfold colP
      rw [List.take_succ_eq_append_getElem h1, List.map_append]
      rfl
    have := ih (i + 1) (by omega)
    rw [hs] at this
    exact Ev.step (fun k => by
      simp only [spec_gmTurned.l1]
      rw [if_pos (by omega), if_pos (by omega), if_pos (by omega), if_pos (by omega), show rd_L1 c (i : Int) = c[i] by simp [rd_L1, List.getD, List.getElem?_eq_getElem h1], if_pos (by omega), if_pos (by omega), upI (by omega)]) this
theorem turned_l0 (c : List (List Int)) (n : Nat) (hl : c.length ≤ 1000) (hn : n ≤ 1000) (hj : ∀ r ∈ c, r.length = n) (d : Nat) : ∀ (j : Nat), j + d = n → Ev (fun k => spec_gmTurned.l0 k c (turnP c j) (n : Int) j) (turnP c n) := by
  induction d with
  | zero =>
    intro j hj'
    obtain rfl : j = n := by omega
    exact Ev.step (fun k => by simp only [spec_gmTurned.l0]; rw [if_neg (by omega)]) (Ev.now _)
  | succ d ih =>
    intro j hj'
    have := ih (j + 1) (by omega)
    rw [turnP_succ] at this
    refine Ev.step (fun k => by simp only [spec_gmTurned.l0]; rw [if_pos (by omega)]; rfl) (turned_l1 c n j hl (fun r hr => by have := hj r hr; omega) (by omega) (turnP c j) _ (by simp [turnP]; omega) this c.length 0 (by omega))
theorem specTurned (c : List (List Int)) (h0 : 0 < c.length) (hl : c.length ≤ 1000) (n : Nat) (hn : n ≤ 1000) (hj : ∀ r ∈ c, r.length = n) : Ev (fun k => spec_gmTurned.f k c) (turnP c n) := by
  have hx : (rd_L1 c 0).length = n := by
    have := hj c[0] (List.getElem_mem h0)
    rw [show rd_L1 c 0 = c[0] by simp [rd_L1, List.getD, List.getElem?_eq_getElem h0]]
    exact this
  refine Ev.congr (fun k => by unfold spec_gmTurned.f; rw [if_pos (by omega), hx]; rfl) (turned_l0 c n hl hn hj n 0 (by omega))
theorem implTurned_l0 (c : List (List Int)) (n : Nat) (hl : c.length ≤ 1000) (hn : n ≤ 1000) (hj : ∀ r ∈ c, r.length = n) (d : Nat) : ∀ (j : Nat), j + d = n → Ev (fun k => impl_turnedTable.l0 k c (turnP c j) (n : Int) j) (turnP c n) := by
  induction d with
  | zero =>
    intro j hj'
    obtain rfl : j = n := by omega
    exact Ev.step (fun k => by simp only [impl_turnedTable.l0]; rw [if_neg (by omega)]) (Ev.now _)
  | succ d ih =>
    intro j hj'
    have := ih (j + 1) (by omega)
    rw [turnP_succ] at this
    have ht : (turnP c j).length ≤ 1000 := by simp [turnP]; omega
    refine Ev.step (fun k => by simp only [impl_turnedTable.l0]; rw [if_pos (by omega)]) (Ev.bind (implColumn c j hl (fun r hr => by have := hj r hr; omega)) ?_)
    exact Ev.congr (fun k => by rw [if_pos (by omega), upI (by omega)]) this
theorem implTurned (c : List (List Int)) (h0 : 0 < c.length) (hl : c.length ≤ 1000) (n : Nat) (hn : n ≤ 1000) (hj : ∀ r ∈ c, r.length = n) : Ev (fun k => impl_turnedTable.f k c) (turnP c n) := by
  have hx : (rd_L1 c 0).length = n := by
    have := hj c[0] (List.getElem_mem h0)
    rw [show rd_L1 c 0 = c[0] by simp [rd_L1, List.getD, List.getElem?_eq_getElem h0]]
    exact this
  refine Ev.congr (fun k => by unfold impl_turnedTable.f; rw [if_pos (by omega), hx]; rfl) (implTurned_l0 c n hl hn hj n 0 (by omega))
/-- Both come to the same. -/
theorem both2 {α : Type} {f g : Nat → Option α} {r : α} (h1 : Ev f r) (h2 : Ev g r) : ∃ K, ∀ k, K ≤ k → f k = some r ∧ g k = some r := by
  obtain ⟨K1, h1⟩ := h1
  obtain ⟨K2, h2⟩ := h2
  exact ⟨max K1 K2, fun k hk => ⟨h1 k (by omega), h2 k (by omega)⟩⟩
/-- The rows of a table: how many, how long. -/
theorem table_is {a : List (List Int)} (h : table a = true) : 0 < a.length ∧ a.length ≤ 3 ∧ 0 < (a.getD 0 []).length ∧ (a.getD 0 []).length ≤ 3 ∧ ∀ r ∈ a, r.length = (a.getD 0 []).length ∧ ∀ v ∈ r, v.natAbs ≤ 9 := by
  unfold table inB at h
  simp only [Bool.and_eq_true, decide_eq_true_eq, List.all_eq_true] at h
  obtain ⟨⟨h1, h2⟩, ⟨h3, h4⟩, h5⟩ := h
  refine ⟨by omega, by omega, by omega, by omega, fun r hr => ?_⟩
  obtain ⟨q1, q2⟩ := h5 r hr
  exact ⟨by omega, fun v hv => by have := q2 v hv; omega⟩
theorem turnP_small (c : List (List Int)) (n : Nat) (hn : n ≤ 1000) (hc : c.length ≤ 1000) : Small (turnP c n) := by
  refine ⟨by simp [turnP]; omega, fun x hx => ?_⟩
  unfold turnP at hx
  obtain ⟨j, -, rfl⟩ := List.mem_map.1 hx
  simp [colP]; omega
theorem swapPlayers_same (a b : List (List Int)) (ha : Small a) (hb : Small b) : ∃ r1 r2 t, Small r1 ∧ Small r2 ∧ ∃ K, ∀ k, K ≤ k → spec_SwapPlayers.f k a b = some (r1, r2, t) ∧ impl_SwapPlayers.f k a b = some (r1, r2, t) := by
  have h1 : Ev (fun k => spec_gmGood.f k a b) (game a b) := ⟨2097201, fun k hk => spec_game a b ha hb k (by omega)⟩
  have h2 : ∀ k, impl_SwapPlayers.f k a b = (some (game a b)).bind fun t => if t = true then ((impl_turnedTable.f k b).bind fun x => ((impl_turnedTable.f k a).bind fun y => (some (x, y, true)))) else (some (([] : List (List Int)), ([] : List (List Int)), false)) := fun k => by unfold impl_SwapPlayers.f; rw [impl_game]
  cases e : game a b with
  | false =>
    rw [e] at h1
    refine ⟨[], [], false, ⟨by simp, by simp⟩, ⟨by simp, by simp⟩, both2 (Ev.congr (fun k => by unfold spec_SwapPlayers.f; rfl) (Ev.bind h1 ?_)) (Ev.congr h2 ?_)⟩
    · exact Ev.now _
    · rw [e]; exact Ev.now _
  | true =>
    rw [e] at h1
    have e' := e
    unfold game at e'
    simp only [Bool.and_eq_true, decide_eq_true_eq] at e'
    obtain ⟨t1, t2, -⟩ := e'
    obtain ⟨a0, a1, a2, a3, a4⟩ := table_is t1
    obtain ⟨b0, b1, b2, b3, b4⟩ := table_is t2
    have sa := specTurned a a0 (by omega) _ (by omega) (fun r hr => (a4 r hr).1)
    have sb := specTurned b b0 (by omega) _ (by omega) (fun r hr => (b4 r hr).1)
    have ia := implTurned a a0 (by omega) _ (by omega) (fun r hr => (a4 r hr).1)
    have ib := implTurned b b0 (by omega) _ (by omega) (fun r hr => (b4 r hr).1)
    refine ⟨turnP b (b.getD 0 []).length, turnP a (a.getD 0 []).length, true, turnP_small _ _ (by omega) (by omega), turnP_small _ _ (by omega) (by omega), both2 (Ev.congr (fun k => by unfold spec_SwapPlayers.f; rfl) (Ev.bind h1 (Ev.congr (fun k => by rw [if_pos rfl]) (Ev.bind sb (Ev.bind sa (Ev.now (turnP b (b.getD 0 []).length, turnP a (a.getD 0 []).length, true))))))) (Ev.congr h2 ?_)⟩
    rw [e]
    exact Ev.congr (fun k => by rw [Option.bind_some, if_pos rfl]) (Ev.bind ib (Ev.bind ia (Ev.now (turnP b (b.getD 0 []).length, turnP a (a.getD 0 []).length, true))))
end Go.Proofs.Yteikfmoklpokhaa.Games

