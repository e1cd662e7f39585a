/- Cells, moves, areas: the reference's and the program's come to the same. -/
import Derived.Test.YtdcdjhbmdbghiaaQSx0
import Derived.Test.YtdcdjhbmdbghiaaQSx3
import Derived.Test.YtdcdjhbmdbghiaaQSx4
import Derived.Test.YtdcdjhbmdbghiaaQSx1
import Derived.Test.YtdcdjhbmdbghiaaQSx2
import Derived.Test.YtdcdjhbmdbghiaaQSEqs
import Derived.Test.YtdcdjhbmdbghiaaQSMapA
import Derived.Test.YtdcdjhbmdbghiaaQSMapG
namespace Go.Proofs.Ytdcdjhbmdbghiaa.Maps
open Go.RowKit Go.Proofs.Ytdcdjhbmdbghiaa.All Go.Proofs.Ytdcdjhbmdbghiaa.Eqs Go.Proofs.Ytdcdjhbmdbghiaa.L1 Go.Proofs.YtdcdjhbmdbghiaaW.PrintWords Go.Proofs.YtdcdjhbmdbghiaaW.PrintLast Go.Proofs.YtdcdjhbmdbghiaaW.PrintMore
theorem step4 {α : Type} {f g : Nat → Option α} {r : α} (h : ∀ k, f (k + 4) = g k) (hg : Ev g r) : Ev f r := by
  obtain ⟨K, hK⟩ := hg
  refine ⟨K + 4, fun k hk => ?_⟩
  obtain ⟨j, rfl⟩ : ∃ j, k = j + 4 := ⟨k - 4, by omega⟩
  rw [h]
  exact hK j (by omega)
/-- The greatest number of a cell. -/
def topCell (n : Int) : Int := wrap64 (wrap64 (n * n) - 1)
def cellsCheck (n : Int) : Bool := match impl_cells.f 2000 n, spec_meCells.f 2000 n with
  | some a, some b => (a == b) && (decide ((a.length : Int) = topCell n + 1) && (decide (a.length ≤ 25) && a.all fun c => decide (c.length = 3) && c.all fun i => decide (0 ≤ i) && decide (i < cnt n)))
  | _, _ => false
set_option maxRecDepth 100000 in
theorem cellsAll : ∀ i : Fin 5, cellsCheck ((i.val : Int) + 1) = true := by decide +kernel
theorem cellsOf (n : Int) (h1 : 1 ≤ n) (h5 : n ≤ 5) : ∃ cs : List (List Int), Ev (fun k => impl_cells.f k n) cs ∧ Ev (fun k => spec_meCells.f k n) cs ∧ (cs.length : Int) = topCell n + 1 ∧ cs.length ≤ 25 ∧ ∀ c ∈ cs, c.length = 3 ∧ ∀ i ∈ c, 0 ≤ i ∧ i < cnt n := by
  have hc := cellsAll ⟨(n - 1).toNat, by omega⟩
  rw [show (((⟨(n - 1).toNat, by omega⟩ : Fin 5).val : Int) + 1) = n by simp only; omega] at hc
  unfold cellsCheck at hc
  split at hc
  · rename_i a b ha hb
    simp only [Bool.and_eq_true, decide_eq_true_eq, List.all_eq_true, beq_iff_eq] at hc
    obtain ⟨rfl, h2, h3, h4⟩ := hc
    exact ⟨a, Ev.of (impl_cells.mono n) ha, Ev.of (spec_meCells.mono n) hb, h2, h3, h4⟩
  · exact absurd hc (by simp)
def ptsCheck (n : Int) : Bool := match impl_points.f 100 n with
  | some ps => decide ((ps.length : Int) = cnt n) && (decide (ps.length ≤ 45) && (List.range ps.length).all fun i =>
      let p := rd_T73 ps i
      (spec_meAt.f 20 n i == some [p.f0, p.f1, p.f2]) && (decide (0 ≤ p.f0) && (decide (0 ≤ p.f1) && (decide (0 ≤ p.f2) && decide (p.f0 + p.f1 + p.f2 = n)))))
  | none => false
theorem ptsAll : ∀ i : Fin 5, ptsCheck ((i.val : Int) + 1) = true := by decide +kernel
/-- The points, as both tell them. -/
theorem ptsOf (n : Int) (h1 : 1 ≤ n) (h5 : n ≤ 5) : ∃ ps : List S73, Ev (fun k => impl_points.f k n) ps ∧ (ps.length : Int) = cnt n ∧ ps.length ≤ 45 ∧ ∀ i : Nat, i < ps.length → Ev (fun k => spec_meAt.f k n i) [(rd_T73 ps i).f0, (rd_T73 ps i).f1, (rd_T73 ps i).f2] ∧ 0 ≤ (rd_T73 ps i).f0 ∧ 0 ≤ (rd_T73 ps i).f1 ∧ 0 ≤ (rd_T73 ps i).f2 ∧ (rd_T73 ps i).f0 + (rd_T73 ps i).f1 + (rd_T73 ps i).f2 = n := by
  have hc := ptsAll ⟨(n - 1).toNat, by omega⟩
  rw [show (((⟨(n - 1).toNat, by omega⟩ : Fin 5).val : Int) + 1) = n by simp only; omega] at hc
  unfold ptsCheck at hc
  split at hc
  · rename_i ps hps
    simp only [Bool.and_eq_true, decide_eq_true_eq, List.all_eq_true, List.mem_range, beq_iff_eq] at hc
    obtain ⟨h2, h3, h4⟩ := hc
    exact ⟨ps, Ev.of (impl_points.mono n) hps, h2, h3, fun i hi => ⟨Ev.of (spec_meAt.mono n i) (h4 i hi).1, (h4 i hi).2⟩⟩
  · exact absurd hc (by simp)
/-- The move of a point. -/
def moveP (ps : List S73) (ls : List (List Int)) (q : Int) : List Int := [wrap64 (rd (rd_L1 ls q) 0 - wrap64 (3 * (rd_T73 ps q).f0)), wrap64 (rd (rd_L1 ls q) 1 - wrap64 (3 * (rd_T73 ps q).f1)), wrap64 (rd (rd_L1 ls q) 2 - wrap64 (3 * (rd_T73 ps q).f2))]
theorem moves_l1 (n : Int) (ls out : List (List Int)) (p0 p1 p2 : Int) (cell : List Int) (len i : Int) (a b c : Int) (ho : out.length ≤ 100) (k : Nat) :
    spec_fxMoves.l1 (k + 4) n ls out [p0, p1, p2] [] cell len i [a, b, c] (([a, b, c] : List Int).length : Int) 0 = spec_fxMoves.l0 k n ls (out ++ [[wrap64 (a - wrap64 (3 * p0)), wrap64 (b - wrap64 (3 * p1)), wrap64 (c - wrap64 (3 * p2))]]) cell len (wrap64 (i + 1)) := by
  simp only [spec_fxMoves.l1]
  rw [if_pos (of_decide_eq_true rfl), if_pos (of_decide_eq_true rfl), if_pos (of_decide_eq_true rfl), if_pos (of_decide_eq_true rfl), if_pos (of_decide_eq_true rfl), show wrap64 (0 + 1) = 1 by decide +kernel, show wrap64 (1 + 1) = 2 by decide +kernel, show wrap64 (2 + 1) = 3 by decide +kernel]
  rw [if_pos (of_decide_eq_true rfl), if_pos (of_decide_eq_true rfl), if_pos (of_decide_eq_true rfl), if_pos (of_decide_eq_true rfl), if_pos (of_decide_eq_true rfl)]
  rw [if_pos (of_decide_eq_true rfl), if_pos (of_decide_eq_true rfl), if_pos (of_decide_eq_true rfl), if_pos (of_decide_eq_true rfl), if_pos (of_decide_eq_true rfl)]
  rw [if_neg (of_decide_eq_false rfl), if_pos (by omega)]
  rfl
theorem moves_l0 (n : Int) (ls : List (List Int)) (ps : List S73) (hlen : ls.length = ps.length) (_ : ps.length ≤ 45) (hrows : ∀ r ∈ ls, r.length = 3)
    (hpt : ∀ i : Nat, i < ps.length → Ev (fun k => spec_meAt.f k n i) [(rd_T73 ps i).f0, (rd_T73 ps i).f1, (rd_T73 ps i).f2])
    (cell : List Int) (hcl : cell.length = 3) (hcell : ∀ v ∈ cell, 0 ≤ v ∧ v < (ps.length : Int)) (d : Nat) : ∀ (i : Nat) (out : List (List Int)), i + d = cell.length → out.length = i → Ev (fun k => spec_fxMoves.l0 k n ls out cell (cell.length : Int) i) (out ++ (cell.drop i).map (moveP ps ls)) ∧ Ev (fun k => impl_moves.l0 k ls out ps cell (cell.length : Int) i) (out ++ (cell.drop i).map (moveP ps ls)) := by
  induction d with
  | zero =>
    intro i out hi ho
    rw [List.drop_of_length_le (by omega), List.map_nil, List.append_nil]
    exact ⟨Ev.step (fun k => by simp only [spec_fxMoves.l0]; rw [if_neg (by omega)]) (Ev.now _), Ev.step (fun k => by simp only [impl_moves.l0]; rw [if_neg (by omega)]) (Ev.now _)⟩
  | succ d ih =>
    intro i out hi ho
    have hlt : i < cell.length := by omega
    obtain ⟨q, hq, hqp⟩ : ∃ q : Nat, cell[i] = (q : Int) ∧ q < ps.length := by
      have := hcell _ (List.getElem_mem hlt)
      exact ⟨cell[i].toNat, by omega, by omega⟩
    have h1 := hpt q hqp
    have hrd : rd cell (i : Int) = (q : Int) := (rd_getElem hlt).trans hq
    have hql : q < ls.length := by omega
    have hrow : rd_L1 ls (q : Int) = ls[q] := rdl_getElem hql
    obtain ⟨a, b, c, habc⟩ := three_of (l := ls[q]) (by have := hrows _ (List.getElem_mem hql); omega)
    rw [habc] at hrow
    obtain ⟨p, hp⟩ : ∃ p, rd_T73 ps (q : Int) = p := ⟨_, rfl⟩
    rw [hp] at h1
    have hm : moveP ps ls (q : Int) = [wrap64 (a - wrap64 (3 * p.f0)), wrap64 (b - wrap64 (3 * p.f1)), wrap64 (c - wrap64 (3 * p.f2))] := by unfold moveP; rw [hrow, hp]; rfl
    obtain ⟨g2, g3⟩ := ih (i + 1) (out ++ [[wrap64 (a - wrap64 (3 * p.f0)), wrap64 (b - wrap64 (3 * p.f1)), wrap64 (c - wrap64 (3 * p.f2))]]) (by omega) (by simp; omega)
    rw [List.append_assoc, List.singleton_append, ← hm, ← List.map_cons, ← hq, ← List.drop_eq_getElem_cons hlt] at g2 g3
    rw [hq, hm] at g2 g3
    refine ⟨Ev.step (fun k => by simp only [spec_fxMoves.l0]; rw [if_pos (by omega), if_pos (by omega), if_pos (by omega), hrd]) (Ev.bind h1 ?_), Ev.step (fun k => by simp only [impl_moves.l0]; rw [if_pos (by omega), if_pos (by omega), if_pos (by omega), hrd, if_pos (by omega), if_pos (by omega), if_pos (by omega), hrow, hp, if_pos (of_decide_eq_true rfl), if_pos (of_decide_eq_true rfl), if_pos (of_decide_eq_true rfl), if_pos (by omega), upI (by omega)]; rfl) g3⟩
    refine Ev.congr (fun k => by rw [if_pos (by omega), if_pos (by omega), hrow]) ?_
    exact step4 (fun k => by rw [moves_l1 n ls out p.f0 p.f1 p.f2 cell (cell.length : Int) (i : Int) a b c (by omega) k, upI (by omega)]) g2
/-- Images and points of a side: what all about moves stands on. -/
structure MapOf (n : Int) (ls : List (List Int)) (ps : List S73) : Prop where
  one : 1 ≤ n
  five : n ≤ 5
  good : goodP n ls = true
  pts : Ev (fun k => impl_points.f k n) ps
  len : (ps.length : Int) = cnt n
  small : ps.length ≤ 45
  at_ : ∀ i : Nat, i < ps.length → Ev (fun k => spec_meAt.f k n i) [(rd_T73 ps i).f0, (rd_T73 ps i).f1, (rd_T73 ps i).f2] ∧ 0 ≤ (rd_T73 ps i).f0 ∧ 0 ≤ (rd_T73 ps i).f1 ∧ 0 ≤ (rd_T73 ps i).f2 ∧ (rd_T73 ps i).f0 + (rd_T73 ps i).f1 + (rd_T73 ps i).f2 = n
theorem mapOf {n : Int} {ls : List (List Int)} (hg : goodP n ls = true) : ∃ ps, MapOf n ls ps := by
  obtain ⟨g1, g5, -, -⟩ := goodOf hg
  obtain ⟨ps, hp, hl, h45, hpt⟩ := ptsOf n g1 g5
  exact ⟨ps, g1, g5, hg, hp, hl, h45, hpt⟩
theorem MapOf.moves {n : Int} {ls : List (List Int)} {ps} (h : MapOf n ls ps) (cell : List Int) (hcl : cell.length = 3) (hcell : ∀ v ∈ cell, 0 ≤ v ∧ v < cnt n) : Ev (fun k => spec_fxMoves.f k n ls cell) (cell.map (moveP ps ls)) ∧ Ev (fun k => impl_moves.f k n ls cell) (cell.map (moveP ps ls)) := by
  obtain ⟨g1, g5, gl, gr⟩ := goodOf h.good
  have hl := h.len
  obtain ⟨r2, r3⟩ := moves_l0 n ls ps (by omega) h.small (fun x hx => (gr x hx).1) (fun i hi => (h.at_ i hi).1) cell hcl (fun v hv => by have := hcell v hv; omega) cell.length 0 [] (by omega) (by simp)
  rw [List.nil_append, List.drop_zero] at r2 r3
  exact ⟨Ev.congr (fun k => by unfold spec_fxMoves.f; rfl) r2, Ev.congr (fun k => by unfold impl_moves.f; rfl) (Ev.bind h.pts r3)⟩
/-- A point's move as three numbers that come to nothing. -/
theorem MapOf.move {n : Int} {ls : List (List Int)} {ps} (h : MapOf n ls ps) (q : Int) (h0 : 0 ≤ q) (h1 : q < cnt n) : ∃ x y z, rd_L1 ls q = [x, y, z] ∧ 0 ≤ x ∧ 0 ≤ y ∧ 0 ≤ z ∧ x + y + z = 3 * n ∧ moveP ps ls q = [x - 3 * (rd_T73 ps q).f0, y - 3 * (rd_T73 ps q).f1, z - 3 * (rd_T73 ps q).f2] ∧ 0 ≤ (rd_T73 ps q).f0 ∧ 0 ≤ (rd_T73 ps q).f1 ∧ 0 ≤ (rd_T73 ps q).f2 ∧ (rd_T73 ps q).f0 + (rd_T73 ps q).f1 + (rd_T73 ps q).f2 = n := by
  obtain ⟨m, rfl⟩ : ∃ m : Nat, q = (m : Int) := ⟨q.toNat, by omega⟩
  have hg := h.good
  unfold goodP at hg
  simp only [Bool.and_eq_true, inB_iff, decide_eq_true_eq, List.all_eq_true] at hg
  obtain ⟨gn, gl, gr⟩ := hg
  have hml : m < ls.length := by omega
  have hi := gr _ (List.getElem_mem hml)
  have hl := h.len
  obtain ⟨-, p0, p1, p2, p3⟩ := h.at_ m (by omega)
  unfold imageP at hi
  simp only [Bool.and_eq_true, inB_iff, decide_eq_true_eq, List.all_eq_true, beq_iff_eq] at hi
  obtain ⟨h3, hb, hsum⟩ := hi
  obtain ⟨x, y, z, e⟩ := three_of h3
  have hrow : rd_L1 ls (m : Int) = [x, y, z] := (rdl_getElem hml).trans e
  rw [e] at hb hsum
  simp only [List.getD_cons_zero, List.getD_cons_succ] at hsum
  have hx := hb x (by simp)
  have hy := hb y (by simp)
  have hz := hb z (by simp)
  refine ⟨x, y, z, hrow, hx.1, hy.1, hz.1, hsum, ?_, p0, p1, p2, p3⟩
  unfold moveP
  rw [hrow, show rd [x, y, z] 0 = x from rfl, show rd [x, y, z] 1 = y from rfl, show rd [x, y, z] 2 = z from rfl]
  rw [wrap_id (x := 3 * (rd_T73 ps (m : Int)).f0) (by omega) (by omega), wrap_id (x := 3 * (rd_T73 ps (m : Int)).f1) (by omega) (by omega), wrap_id (x := 3 * (rd_T73 ps (m : Int)).f2) (by omega) (by omega)]
  rw [wrap_id (by omega) (by omega), wrap_id (by omega) (by omega), wrap_id (by omega) (by omega)]

/-! #### areas -/
def areasP (a b c : List Int) : List Int := [wrap64 (wrap64 (rd b 0 * rd c 1) - wrap64 (rd b 1 * rd c 0)), wrap64 (wrap64 (rd c 0 * rd a 1) - wrap64 (rd c 1 * rd a 0)), wrap64 (wrap64 (rd a 0 * rd b 1) - wrap64 (rd a 1 * rd b 0))]
theorem areasS (a0 a1 a2 b0 b1 b2 c0 c1 c2 : Int) (k : Nat) : spec_fxAreas.l0 (k + 4) [[a0, a1, a2], [b0, b1, b2], [c0, c1, c2]] [] 0 = some (areasP [a0, a1, a2] [b0, b1, b2] [c0, c1, c2]) := by kernel_rfl
theorem areasI (a0 a1 a2 b0 b1 b2 c0 c1 c2 : Int) (k : Nat) : impl_areas.l0 (k + 4) [[a0, a1, a2], [b0, b1, b2], [c0, c1, c2]] [] 0 = some (areasP [a0, a1, a2] [b0, b1, b2] [c0, c1, c2]) := by kernel_rfl
theorem mul_bd (x y : Int) (b : Nat) (hx : x.natAbs ≤ b) (hy : y.natAbs ≤ b) : (x * y).natAbs ≤ b * b := by
  rw [Int.natAbs_mul]
  exact Nat.mul_le_mul hx hy
/-- The areas of a cell. -/
def cellAreas (ps : List S73) (ls : List (List Int)) (cell : List Int) : List Int := areasP (moveP ps ls (rd cell 0)) (moveP ps ls (rd cell 1)) (moveP ps ls (rd cell 2))
theorem area_bd (b0 b1 c0 c1 : Int) (hb0 : b0.natAbs ≤ 15) (hb1 : b1.natAbs ≤ 15) (hc0 : c0.natAbs ≤ 15) (hc1 : c1.natAbs ≤ 15) : (b0 * c1 - b1 * c0).natAbs ≤ 450 := by
  have h1 := mul_bd b0 c1 15 hb0 hc1
  have h2 := mul_bd b1 c0 15 hb1 hc0
  omega
theorem area_eq (b0 b1 b2 c0 c1 c2 : Int) (hb0 : b0.natAbs ≤ 15) (hb1 : b1.natAbs ≤ 15) (hc0 : c0.natAbs ≤ 15) (hc1 : c1.natAbs ≤ 15) : wrap64 (wrap64 (rd [b0, b1, b2] 0 * rd [c0, c1, c2] 1) - wrap64 (rd [b0, b1, b2] 1 * rd [c0, c1, c2] 0)) = b0 * c1 - b1 * c0 := by
  have h1 := mul_bd b0 c1 15 hb0 hc1
  have h2 := mul_bd b1 c0 15 hb1 hc0
  rw [show rd [b0, b1, b2] 0 = b0 from rfl, show rd [c0, c1, c2] 1 = c1 from rfl, show rd [b0, b1, b2] 1 = b1 from rfl, show rd [c0, c1, c2] 0 = c0 from rfl]
  rw [wrap_id (x := b0 * c1) (by omega) (by omega), wrap_id (x := b1 * c0) (by omega) (by omega), wrap_id (by omega) (by omega)]
theorem MapOf.areas {n : Int} {ls : List (List Int)} {ps} (h : MapOf n ls ps) (cell : List Int) (hcl : cell.length = 3) (hcell : ∀ v ∈ cell, 0 ≤ v ∧ v < cnt n) : Ev (fun k => spec_fxAreas.f k n ls cell) (cellAreas ps ls cell) ∧ Ev (fun k => impl_areas.f k n ls cell) (cellAreas ps ls cell) ∧ ∃ x y z, cellAreas ps ls cell = [x, y, z] ∧ x.natAbs ≤ 450 ∧ y.natAbs ≤ 450 ∧ z.natAbs ≤ 450 := by
  obtain ⟨r2, r3⟩ := h.moves cell hcl hcell
  obtain ⟨i, j, k, rfl⟩ := three_of (l := cell) (by omega)
  have hi := hcell i (by simp)
  have hj := hcell j (by simp)
  have hk := hcell k (by simp)
  have h5 := h.five
  obtain ⟨x0, y0, z0, -, a1, a2, a3, a4, a5, a6, a7, a8, a9⟩ := h.move i hi.1 hi.2
  obtain ⟨x1, y1, z1, -, b1, b2, b3, b4, b5, b6, b7, b8, b9⟩ := h.move j hj.1 hj.2
  obtain ⟨x2, y2, z2, -, c1, c2, c3, c4, c5, c6, c7, c8, c9⟩ := h.move k hk.1 hk.2
  have hcA : cellAreas ps ls [i, j, k] = areasP (moveP ps ls i) (moveP ps ls j) (moveP ps ls k) := rfl
  simp only [List.map_cons, List.map_nil] at r2 r3
  rw [hcA]
  rw [a5, b5, c5] at r2 r3 ⊢
  refine ⟨Ev.congr (fun k => by unfold spec_fxAreas.f; rfl) (Ev.bind r2 (step4 (g := fun _ => some _) (fun k => areasS _ _ _ _ _ _ _ _ _ k) (Ev.now _))), Ev.congr (fun k => by unfold impl_areas.f; rfl) (Ev.bind r3 (step4 (g := fun _ => some _) (fun k => areasI _ _ _ _ _ _ _ _ _ k) (Ev.now _))), ?_⟩
  unfold areasP
  refine ⟨_, _, _, rfl, ?_, ?_, ?_⟩
  · rw [area_eq _ _ _ _ _ _ (by omega) (by omega) (by omega) (by omega)]; exact area_bd _ _ _ _ (by omega) (by omega) (by omega) (by omega)
  · rw [area_eq _ _ _ _ _ _ (by omega) (by omega) (by omega) (by omega)]; exact area_bd _ _ _ _ (by omega) (by omega) (by omega) (by omega)
  · rw [area_eq _ _ _ _ _ _ (by omega) (by omega) (by omega) (by omega)]; exact area_bd _ _ _ _ (by omega) (by omega) (by omega) (by omega)
theorem areas_same (n : Int) (ls : List (List Int)) (hg : goodP n ls = true) (cell : List Int) (hcl : cell.length = 3) (hcell : ∀ v ∈ cell, 0 ≤ v ∧ v < cnt n) : ∃ x y z, Ev (fun k => spec_fxAreas.f k n ls cell) [x, y, z] ∧ Ev (fun k => impl_areas.f k n ls cell) [x, y, z] ∧ x.natAbs ≤ 450 ∧ y.natAbs ≤ 450 ∧ z.natAbs ≤ 450 := by
  obtain ⟨ps, h⟩ := mapOf hg
  obtain ⟨r2, r3, x, y, z, e, hx, hy, hz⟩ := h.areas cell hcl hcell
  rw [e] at r2 r3
  exact ⟨x, y, z, r2, r3, hx, hy, hz⟩
end Go.Proofs.Ytdcdjhbmdbghiaa.Maps

