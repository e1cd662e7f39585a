/- Part of the proof that the law FnExactCornersOf answers true for all arguments. -/
import Derived.Test.YtggiicplcglalaaQC30
namespace Go.Proofs.Ytggiicplcglalaa.GmSpc
open Go.RowKit Go.Proofs.Ytggiicplcglalaa.All Go.Proofs.YtggiicplcglalaaW.PrintWords Go.Proofs.YtggiicplcglalaaW.PrintLast Go.Proofs.Ytggiicplcglalaa.Eqs Go.Proofs.Ytggiicplcglalaa.GmDet Go.Proofs.Ytggiicplcglalaa.GmRed Go.Proofs.Ytggiicplcglalaa.LH Go.Proofs.Ytggiicplcglalaa.GmDot Go.Proofs.Ytggiicplcglalaa.GmFig Go.Proofs.Ytggiicplcglalaa.GmPut Go.Proofs.Ytggiicplcglalaa.GmImp Go.Proofs.Ytggiicplcglalaa.GmFo
set_option linter.unusedVariables false
set_option linter.unusedSimpArgs false
set_option linter.unusedSectionVars false
theorem abs_is (a : Int) (h : a.natAbs ≤ 1000000000) : spec_l1Abs.f a = some ((a.natAbs : Nat) : Int) := by
 unfold spec_l1Abs.f spec_l1Most.f
 rw [wrap_id (x := -a) (by omega) (by omega)]
 by_cases c : a > -a
 ·rw [if_pos c, Option.bind_some]; congr 1; omega
 ·rw [if_neg c, Option.bind_some]; congr 1; omega
theorem pure_is {i n : Nat} (h : i < n) (hn : n ≤ 1000) : spec_gmPure.f (n : Int) (i : Int) = some (unitR n i) := by
 unfold spec_gmPure.f
 rw [if_pos (by omega), if_pos (by omega), Option.bind_some, if_pos (by omega), if_pos (by simp; omega), Int.toNat_natCast, Int.toNat_natCast]
 rfl
theorem bit_is (s i : Nat) (hi : i ≤ 60) : Int.tmod (shr .i64 (s : Int) (i : Int)) 2 = ((s / 2 ^ i % 2 : Nat) : Int) := by
 have e : shr .i64 (s : Int) (i : Int) = ((s / 2 ^ i : Nat) : Int) := by
  show (s : Int) / (2 : Int) ^ min (i : Int).toNat 64 = _
  rw [Int.toNat_natCast, Nat.min_eq_left (by omega), Int.natCast_ediv, Int.natCast_pow]
  rfl
 rw [e]
 rfl
def pc (S : List Cd) (c : Nat) : Int := if detL (S.map (·.1)) < 0 then -detL (colPut c S) else detL (colPut c S)
theorem cand_pc (S : List Cd) : cand S = (List.range S.length).map (pc S) ++ [((detL (S.map (·.1))).natAbs : Int)] := rfl
def Sq2 (n : Nat) (S : List Cd) : Prop := S.length = n ∧ ∀ q ∈ S, q.1.length = n ∧ (∀ a ∈ q.1, a.natAbs ≤ 19) ∧ q.2.natAbs ≤ 19
theorem Sq2.rows {n : Nat} {x0 : List Cd} (h : Sq2 n x0) : (x0.map (·.1)).length = n ∧ ∀ r ∈ x0.map (·.1), r.length = n ∧ ∀ a ∈ r, a.natAbs ≤ 19 := by
 refine ⟨by simp [h.1], fun r hr => ?_⟩
 obtain ⟨q, hq, rfl⟩ := List.mem_map.1 hr
 exact ⟨(h.2 q hq).1, (h.2 q hq).2.1⟩
theorem Sq2.cols {n : Nat} {x0 : List Cd} (h : Sq2 n x0) (c : Nat) : (colPut c x0).length = n ∧ ∀ r ∈ colPut c x0, r.length = n ∧ ∀ a ∈ r, a.natAbs ≤ 19 := by
 refine ⟨by simp [colPut, h.1], fun r hr => ?_⟩
 obtain ⟨q, hq, rfl⟩ := List.mem_map.1 hr
 obtain ⟨a, b, c'⟩ := h.2 q hq
 refine ⟨by simp [a], fun z hz => ?_⟩
 rcases List.mem_or_eq_of_mem_set hz with h | h
 ·exact b z h
 ·subst h; exact c'
theorem Sq2.det {n : Nat} (hn : d3 n) {S : List Cd} (h : Sq2 n S) : (detL (S.map (·.1))).natAbs ≤ 185193 := (specDetL hn h.rows.1 h.rows.2).1
theorem Sq2.pc {n : Nat} (hn : d3 n) {S : List Cd} (h : Sq2 n S) (c : Nat) : (pc S c).natAbs ≤ 185193 := by
 have := (specDetL hn (h.cols c).1 (h.cols c).2).1
 unfold GmSpc.pc
 split <;> omega
theorem Sq2.cand {n : Nat} (hn : d3 n) {S : List Cd} (h : Sq2 n S) : ∀ b ∈ LH.cand S, b.natAbs ≤ 185193 := by
 intro b hb
 rw [cand_pc] at hb
 rcases List.mem_append.1 hb with c | c
 ·obtain ⟨j, _, rfl⟩ := List.mem_map.1 c
  exact h.pc hn j
 ·have := h.det hn
  have e : b = ((detL (S.map (·.1))).natAbs : Int) := by simpa using c
  omega
theorem wrapS {a : Int} (h : a.natAbs ≤ 185193) : wrap64 a = a := wrap_id (by omega) (by omega)
theorem wrapN {a : Int} (h : a.natAbs ≤ 185193) : wrap64 (-a) = -a := wrap_id (by omega) (by omega)
theorem co_l3 {n : Nat} (hn : d3 n) (M : List (List Int)) (x4 : List (List Int)) (x5 : Int) (S : List Cd) (hS : Sq2 n S) (x10 : List Int) (g : Nat) (c : Nat) (hc : c < n) (hx : x10.length ≤ 100) (v : List (List Int))
  (hfin : Ev (fun k => spec_gmCorners.l2 k M (n : Int) x4 x5 (S.map (·.1)) (S.map (·.2)) (detL (S.map (·.1))) (x10 ++ [pc S c]) ((Nat.gcd g (pc S c).natAbs : Nat) : Int) ((c + 1 : Nat) : Int)) v) (d : Nat) :
  ∀ i : Nat, i + d = n → Ev (fun k => spec_gmCorners.l3 k M (n : Int) x4 x5 (S.map (·.1)) (S.map (·.2)) (detL (S.map (·.1))) x10 (g : Int) (c : Int) (colPut c (S.take i)) ((S.map (·.1)).length : Int) (i : Int)) v := by
 have hn3 : n ≤ 3 := by rcases hn with h | h | h <;> omega
 have hl := hS.1
 induction d with
 | zero =>
  intro i hi
  rw [List.take_of_length_le (by omega)]
  have hz : ¬ (i : Int) < ((S.map (·.1)).length : Int) := by rw [List.length_map]; omega
  have ec := w_succ c (by omega)
  have hx' : x10.length < 17592186044416 := by omega
  have hd := specDetL hn (hS.cols c).1 (hS.cols c).2
  refine Ev.step (f := fun k => (spec_gmDeterminant.f k (colPut c S)).bind fun t245 => (if detL (S.map (·.1)) < 0 then (if x10.length < 17592186044416 then ((spec_l1Abs.f (wrap64 (-t245))).bind fun t249 => ((spec_gmGcd.f k (g : Int) t249).bind fun t250 => (spec_gmCorners.l2 k M (n : Int) x4 x5 (S.map (·.1)) (S.map (·.2)) (detL (S.map (·.1))) (x10 ++ [wrap64 (-t245)]) t250 (wrap64 ((c : Int) + 1))))) else (none)) else (if x10.length < 17592186044416 then ((spec_l1Abs.f t245).bind fun t254 => ((spec_gmGcd.f k (g : Int) t254).bind fun t255 => (spec_gmCorners.l2 k M (n : Int) x4 x5 (S.map (·.1)) (S.map (·.2)) (detL (S.map (·.1))) (x10 ++ [t245]) t255 (wrap64 ((c : Int) + 1))))) else (none)))) (fun k => ?_) (Ev.bind hd.2 ?_)
  ·simp only [spec_gmCorners.l3]
   rw [if_neg hz]
  ·rw [ec]
   have hp := hS.pc hn c
   unfold pc at hfin hp
   by_cases c9 : detL (S.map (·.1)) < 0
   ·simp only [if_pos c9, if_pos hx'] at hfin hp ⊢
    simp only [wrapN hd.1, abs_is _ (Nat.le_trans hp (by decide)), Option.bind_some]
    exact Ev.bind (specGcd _ _) hfin
   ·simp only [if_neg c9, if_pos hx'] at hfin hp ⊢
    simp only [abs_is _ (Nat.le_trans hp (by decide)), Option.bind_some]
    exact Ev.bind (specGcd _ _) hfin
 | succ d ih =>
  intro i hi
  have h1 : i < S.length := by omega
  have hz1 : (i : Int) < ((S.map (·.1)).length : Int) := by rw [List.length_map]; omega
  have hz2 : (0 : Int) ≤ (i : Int) := by omega
  have hz3 : (i : Int) < ((S.map (·.2)).length : Int) := by rw [List.length_map]; omega
  have hz4 : (0 : Int) ≤ (c : Int) := by omega
  have ei := w_succ i (by omega)
  obtain ⟨q1, q2, q3⟩ := hS.2 _ (List.getElem_mem h1)
  have hz5 : (c : Int) < ((S[i]).1.length : Int) := by rw [q1]; omega
  have hz6 : (colPut c (S.take i)).length < 5864062014805 := by
   unfold colPut
   rw [List.length_map, List.length_take]
   omega
  have er : rd_L1 (S.map (·.1)) (i : Int) = (S[i]).1 := by simp [rd_L1, List.getD, List.getElem?_eq_getElem h1]
  have er2 : rd (S.map (·.2)) (i : Int) = (S[i]).2 := by
   rw [rd_getElem (show i < (S.map (·.2)).length by simpa using h1)]
   simp
  have hown : spec_l1Own.f (S[i]).1 = some (S[i]).1 := own_is _ (by rw [q1]; omega)
  refine Ev.step (fun k => ?_) (ih (i + 1) (by omega))
  simp only [spec_gmCorners.l3]
  rw [if_pos hz1, if_pos hz2, if_pos hz1, er, hown, Option.bind_some, if_pos hz3, if_pos hz4, if_pos hz5, if_pos hz6, er2, ei, Int.toNat_natCast]
  unfold colPut
  rw [List.take_succ_eq_append_getElem h1, List.map_append]
  rfl
def gcdTo2 (S : List Cd) (c : Nat) : Nat := ((List.range c).map (pc S)).foldl (fun g x => Nat.gcd g x.natAbs) (detL (S.map (·.1))).natAbs
theorem gcdTo2_succ (S : List Cd) (c : Nat) : gcdTo2 S (c + 1) = Nat.gcd (gcdTo2 S c) (pc S c).natAbs := by
 unfold gcdTo2
 rw [List.range_succ, List.map_append, List.foldl_append]
 rfl
theorem foldl_gcd_eq (q : List Int) : ∀ d : Nat, q.foldl (fun g x => Nat.gcd g x.natAbs) d = Nat.gcd d (q.foldl (fun g x => Nat.gcd g x.natAbs) 0) := by
 induction q with
 | nil => intro d; simp
 | cons a q ih =>
  intro d
  simp only [List.foldl_cons]
  rw [ih (Nat.gcd d a.natAbs), ih (Nat.gcd 0 a.natAbs), Nat.gcd_zero_left, Nat.gcd_assoc]
theorem gcdTo2_all {n : Nat} (S : List Cd) (hS : S.length = n) : gcdTo2 S n = gcdL (cand S) := by
 unfold gcdTo2 gcdL
 rw [cand_pc, hS, List.foldl_append, foldl_gcd_eq, Nat.gcd_comm]
 simp
theorem div_step (g : Int) (q : List Int) (i : Nat) (h : i < q.length) : ((q.take i).map (fun a => a / g) ++ q.drop i).set i (q[i] / g) = (q.take (i + 1)).map (fun a => a / g) ++ q.drop (i + 1) := by
 rw [List.set_append, if_neg (by simp; omega), List.drop_eq_getElem_cons h, List.take_succ_eq_append_getElem h, List.map_append, List.append_assoc]
 have : i - (List.map (fun a => a / g) (q.take i)).length = 0 := by simp; omega
 rw [this]
 rfl
theorem map_drop_get2 (f : Int → Int) (q : List Int) (i : Nat) (h : i < q.length) (h2 : i < ((q.take i).map f ++ q.drop i).length) : ((q.take i).map f ++ q.drop i)[i] = q[i] := by
 rw [List.getElem_append_right (by simp; omega), List.getElem_drop]
 have e : i + (i - (List.map f (q.take i)).length) = i := by simp; omega
 simp only [e]
theorem div_small {g x : Int} (hg : 0 < g) (h : g ∣ x) (hx : x.natAbs ≤ 185193) : wrap64 (Int.tdiv x g) = x / g := by
 rw [Int.tdiv_eq_ediv_of_dvd h]
 obtain ⟨y, rfl⟩ := h
 rw [Int.mul_ediv_cancel_left _ (by omega)]
 rw [Int.natAbs_mul] at hx
 have : y.natAbs ≤ g.natAbs * y.natAbs := Nat.le_mul_of_pos_left _ (by omega)
 exact wrapS (by omega)
section
variable {n m : Nat} (hn : d3 n) (hm : d3 m) {M : List (List Int)} (hM : Sums n m M)
include hn hm hM
theorem co_l4 (x4 : List (List Int)) (x5 : Int) (q : List Int) (hq : q.length = n + 1) (hy : ∀ b ∈ q, b.natAbs ≤ 185193) (hg : 0 < gcdL q) (hx4 : ∀ a ∈ x4, a.length = n + 1) (hl4 : x4.length ≤ 1000) (v : List (List Int))
  (hfin : Ev (fun k => spec_gmCorners.l0 k M (n : Int) (if insB (FA n M) (n + m) (emb (red q)) = true then putL x4 (red q) else x4) (wrap64 (x5 + 1))) v) (d : Nat) :
  ∀ i : Nat, i + d = q.length → Ev (fun k => spec_gmCorners.l4 k M (n : Int) x4 x5 ((q.take i).map (fun a => a / (gcdL q : Int)) ++ q.drop i) (gcdL q : Int) (q.length : Int) (i : Int)) v := by
 have hn3 : n ≤ 3 := by rcases hn with h | h | h <;> omega
 induction d with
 | zero =>
  intro i hi
  rw [List.take_of_length_le (by omega), List.drop_eq_nil_of_le (by omega), List.append_nil]
  have hz : ¬ (i : Int) < (q.length : Int) := by omega
  have hrl : (red q).length = n + 1 := by rw [red_len, hq]
  have hmet := evMet hn hm hM hrl (fun b hb => Nat.le_trans (red_bd q _ hy b hb) (by decide))
  have hput := evPut x4 (red q) (fun a ha => by rw [hx4 a ha, hrl]) (by rw [hrl]; omega) hl4
  refine Ev.step (f := fun k => (spec_gmMet.f k M (red q)).bind fun bt262 => (if bt262.2 = true then ((spec_gmPut.f k x4 (red q)).bind fun t266 => (spec_gmCorners.l0 k M (n : Int) t266 (wrap64 (x5 + 1)))) else (spec_gmCorners.l0 k M (n : Int) x4 (wrap64 (x5 + 1))))) (fun k => ?_) (Ev.bind hmet ?_)
  ·simp only [spec_gmCorners.l4]
   rw [if_neg hz]
   rfl
  ·cases c : insB (FA n M) (n + m) (emb (red q)) with
   | true =>
    rw [c] at hfin
    simp only [if_true] at hfin ⊢
    exact Ev.bind hput hfin
   | false =>
    rw [c] at hfin
    simp only [Bool.false_eq_true, if_false] at hfin ⊢
    exact hfin
 | succ d ih =>
  intro i hi
  have h1 : i < q.length := by omega
  have hz1 : (i : Int) < (q.length : Int) := by omega
  have hz2 : (0 : Int) ≤ (i : Int) := by omega
  have ei := w_succ i (by omega)
  have hg0 : (0 : Int) < (gcdL q : Int) := by omega
  have hg1 : ¬ (gcdL q : Int) = 0 := by omega
  have hlen : ((q.take i).map (fun a => a / (gcdL q : Int)) ++ q.drop i).length = q.length := by simp; omega
  have hz3 : (i : Int) < ((((q.take i).map (fun a => a / (gcdL q : Int)) ++ q.drop i).length : Nat) : Int) := by rw [hlen]; exact hz1
  have key := ih (i + 1) (by omega)
  have er : rd ((q.take i).map (fun a => a / (gcdL q : Int)) ++ q.drop i) (i : Int) = q[i] := by
   have h2 : i < ((q.take i).map (fun a => a / (gcdL q : Int)) ++ q.drop i).length := by rw [hlen]; exact h1
   rw [rd_getElem h2, map_drop_get2 _ q i h1 h2]
  have hw := div_small hg0 (gcdL_dvd (List.getElem_mem h1)) (hy _ (List.getElem_mem h1))
  refine Ev.step (fun k => ?_) key
  simp only [spec_gmCorners.l4]
  rw [if_pos hz1, if_pos hz2, if_pos hz3, if_neg hg1, er, hw, Int.toNat_natCast, div_step _ q i h1, ei]
theorem co_l2 (x4 : List (List Int)) (x5 : Int) (S : List Cd) (hS : Sq2 n S) (h0 : detL (S.map (·.1)) ≠ 0) (hx4 : ∀ a ∈ x4, a.length = n + 1) (hl4 : x4.length ≤ 1000) (v : List (List Int))
  (hfin : Ev (fun k => spec_gmCorners.l0 k M (n : Int) (if insB (FA n M) (n + m) (emb (red (cand S))) = true then putL x4 (red (cand S)) else x4) (wrap64 (x5 + 1))) v) (d : Nat) :
  ∀ c : Nat, c + d = n → Ev (fun k => spec_gmCorners.l2 k M (n : Int) x4 x5 (S.map (·.1)) (S.map (·.2)) (detL (S.map (·.1))) ((List.range c).map (pc S)) ((gcdTo2 S c : Nat) : Int) (c : Int)) v := by
 have hn3 : n ≤ 3 := by rcases hn with h | h | h <;> omega
 induction d with
 | zero =>
  intro c hc
  obtain rfl : c = n := by omega
  have hz : ¬ (c : Int) < (c : Int) := by omega
  have hcl : (cand S).length = c + 1 := by rw [cand_len, hS.1]
  have hlr : ((List.range c).map (pc S)).length < 17592186044416 := by rw [List.length_map, List.length_range]; omega
  have ecand : cand S = (List.range c).map (pc S) ++ [((detL (S.map (·.1))).natAbs : Int)] := by rw [cand_pc, hS.1]
  obtain ⟨x, hx, hx0⟩ := cand_last hn hcl (cand_pos hn hS.1 h0)
  have hgp := gcdL_pos hx hx0
  have h4 := co_l4 hn hm hM x4 x5 (cand S) hcl (hS.cand hn) hgp hx4 hl4 v hfin (cand S).length 0 (Nat.zero_add _)
  rw [gcdTo2_all S hS.1]
  refine Ev.step (fun k => ?_) h4
  simp only [spec_gmCorners.l2]
  rw [if_neg hz, abs_is _ (Nat.le_trans (hS.det hn) (by decide)), Option.bind_some, if_pos hlr, Option.bind_some, ← ecand]
  rfl
 | succ d ih =>
  intro c hc
  have hcn : c < n := by omega
  have hz : (c : Int) < (n : Int) := by omega
  have hx : ((List.range c).map (pc S)).length ≤ 100 := by rw [List.length_map, List.length_range]; omega
  have key := ih (c + 1) (by omega)
  rw [gcdTo2_succ, List.range_succ, List.map_append] at key
  have h3 := co_l3 hn M x4 x5 S hS ((List.range c).map (pc S)) (gcdTo2 S c) c hcn hx v key n 0 (Nat.zero_add n)
  refine Ev.step (fun k => ?_) h3
  simp only [spec_gmCorners.l2]
  rw [if_pos hz]
  rfl
def okA (n : Nat) (M : List (List Int)) (S : List Nat) : Bool := decide (S.length = n) && (decide (detL ((S.map (CA n M)).map (·.1)) ≠ 0) && insB (FA n M) (n + M.length) (emb (red (cand (S.map (CA n M))))))
def putA (n : Nat) (M : List (List Int)) (L : List (List Int)) (S : List Nat) : List (List Int) := if okA n M S = true then putL L (red (cand (S.map (CA n M)))) else L
omit hn hm hM in
theorem CA_at {n m : Nat} {M : List (List Int)} (hM : Sums n m M) {k : Nat} (hk : k < n + m) : (CA n M k).1.length = n ∧ (∀ a ∈ (CA n M k).1, a.natAbs ≤ 19) ∧ (CA n M k).2.natAbs ≤ 19 := by
 unfold CA
 by_cases c : k < n
 ·rw [if_pos c]
  exact ⟨unitR_len _ _, unitR_small _ _, by show (0 : Int).natAbs ≤ 19; decide⟩
 ·rw [if_neg c]
  obtain ⟨a, b⟩ := hM.2 _ (GmFig.getD_mem (show k - n < M.length by rw [hM.1]; omega))
  exact ⟨a, fun x hx => by have := b x hx; omega, by show (1 : Int).natAbs ≤ 19; decide⟩
theorem co_l1 (x4 : List (List Int)) (s : Nat) (hx4 : ∀ a ∈ x4, a.length = n + 1) (hl4 : x4.length ≤ 1000) (v : List (List Int))
  (hfin : Ev (fun k => spec_gmCorners.l0 k M (n : Int) (putA n M x4 (mbits (n + m) s)) (wrap64 ((s : Int) + 1))) v) (d : Nat) :
  ∀ i : Nat, i + d = n + m → Ev (fun k => spec_gmCorners.l1 k M (n : Int) x4 (s : Int) (((mbits i s).map (CA n M)).map (·.1)) (((mbits i s).map (CA n M)).map (·.2)) (i : Int)) v := by
 have hn3 : n ≤ 3 := by rcases hn with h | h | h <;> omega
 have hm3 : m ≤ 3 := by rcases hm with h | h | h <;> omega
 have hN : wrap64 ((n : Int) + (M.length : Int)) = ((n + m : Nat) : Int) := by rw [hM.1]; exact w_add n m (by omega)
 induction d with
 | zero =>
  intro i hi
  obtain rfl : i = n + m := by omega
  have hz : ¬ ((n + m : Nat) : Int) < ((n + m : Nat) : Int) := by omega
  have hSn : ∀ k ∈ mbits (n + m) s, k < n + m := fun k hk => mbits_lt hk
  unfold putA okA at hfin
  by_cases hl : (mbits (n + m) s).length = n
  ·have hzl : (((((mbits (n + m) s).map (CA n M)).map (·.1)).length : Nat) : Int) = (n : Int) := by rw [List.length_map, List.length_map, hl]
   have hS : Sq2 n ((mbits (n + m) s).map (CA n M)) := by
    refine ⟨by rw [List.length_map, hl], fun q hq => ?_⟩
    obtain ⟨k, hk, rfl⟩ := List.mem_map.1 hq
    exact CA_at hM (hSn k hk)
   rw [decide_eq_true hl, Bool.true_and, hM.1] at hfin
   generalize hSS : (mbits (n + m) s).map (CA n M) = S at hfin hS hzl ⊢
   have hd := specDetL hn hS.rows.1 hS.rows.2
   refine Ev.step (f := fun k => (spec_gmDeterminant.f k (S.map (·.1))).bind fun t234 => (if t234 = 0 then (spec_gmCorners.l0 k M (n : Int) x4 (wrap64 ((s : Int) + 1))) else ((spec_l1Abs.f t234).bind fun t235 => (spec_gmCorners.l2 k M (n : Int) x4 (s : Int) (S.map (·.1)) (S.map (·.2)) t234 ([] : List Int) t235 0)))) (fun k => ?_) (Ev.bind hd.2 ?_)
   ·simp only [spec_gmCorners.l1]
    rw [hN, if_neg hz, if_pos hzl]
   ·by_cases c0 : detL (S.map (·.1)) = 0
    ·rw [decide_eq_false (fun h => h c0), Bool.false_and, if_neg (by decide)] at hfin
     simp only [if_pos c0]
     exact hfin
    ·rw [decide_eq_true c0, Bool.true_and] at hfin
     simp only [if_neg c0]
     simp only [abs_is _ (Nat.le_trans hd.1 (by decide)), Option.bind_some]
     exact co_l2 hn hm hM x4 (s : Int) S hS c0 hx4 hl4 v hfin n 0 (Nat.zero_add n)
  ·have hzl : ¬ (((((mbits (n + m) s).map (CA n M)).map (·.1)).length : Nat) : Int) = (n : Int) := by rw [List.length_map, List.length_map]; omega
   rw [decide_eq_false hl, Bool.false_and, if_neg (by decide)] at hfin
   refine Ev.step (fun k => ?_) hfin
   simp only [spec_gmCorners.l1]
   rw [hN, if_neg hz, if_neg hzl]
 | succ d ih =>
  intro i hi
  have hz : (i : Int) < ((n + m : Nat) : Int) := by omega
  have hz2 : (0 : Int) ≤ (i : Int) := by omega
  have ei := w_succ i (by omega)
  have hbit := bit_is s i (by omega)
  have key := ih (i + 1) (by omega)
  have hle : (mbits i s).length ≤ i := by
   unfold mbits
   exact Nat.le_trans (List.length_filter_le _ _) (by simp)
  have hl6 : (((mbits i s).map (CA n M)).map (·.1)).length < 5864062014805 := by rw [List.length_map, List.length_map]; omega
  have hl7 : (((mbits i s).map (CA n M)).map (·.2)).length < 17592186044416 := by rw [List.length_map, List.length_map]; omega
  rw [mbits_succ] at key
  refine Ev.step (fun k => ?_) key
  simp only [spec_gmCorners.l1]
  rw [hN, if_pos hz, if_pos hz2, hbit, ei]
  by_cases c : s / 2 ^ i % 2 = 1
  ·have c' : ¬ ((s / 2 ^ i % 2 : Nat) : Int) = 0 := by rw [c]; decide
   rw [if_neg c', if_pos c]
   by_cases c2 : i < n
   ·have hz3 : (i : Int) < (n : Int) := by omega
    rw [if_pos hz3, pure_is c2 (by omega), Option.bind_some, if_pos hl6, if_pos hl7]
    have e : CA n M i = (unitR n i, 0) := by unfold CA; rw [if_pos c2]
    simp only [List.map_append, List.map_cons, List.map_nil, e]
   ·have hz3 : ¬ (i : Int) < (n : Int) := by omega
    have ew : wrap64 ((i : Int) - (n : Int)) = ((i - n : Nat) : Int) := by
     rw [show (i : Int) - (n : Int) = ((i - n : Nat) : Int) by omega]
     exact w_nat (by omega)
    have hz4 : (0 : Int) ≤ ((i - n : Nat) : Int) := by omega
    have hz5 : ((i - n : Nat) : Int) < (M.length : Int) := by rw [hM.1]; omega
    have e : CA n M i = (M.getD (i - n) [], 1) := by unfold CA; rw [if_neg c2]
    rw [if_neg hz3, ew, if_pos hz4, if_pos hz5, if_pos hl6, if_pos hl7]
    simp only [List.map_append, List.map_cons, List.map_nil, e]
    rfl
  ·have c' : ((s / 2 ^ i % 2 : Nat) : Int) = 0 := by
    have := Nat.mod_two_eq_zero_or_one (s / 2 ^ i)
    omega
   rw [if_pos c', if_neg c, List.append_nil]
def upTo (n m : Nat) (M : List (List Int)) : Nat → List (List Int)
 | 0 => []
 | s + 1 => putA n M (upTo n m M s) (mbits (n + m) s)
theorem upTo_is : ∀ s : Nat, Sorted (upTo n m M s) ∧ (upTo n m M s).length ≤ s ∧ (∀ a ∈ upTo n m M s, a.length = n + 1) ∧ ∀ p, p ∈ upTo n m M s ↔ ∃ t, t < s ∧ okA n M (mbits (n + m) t) = true ∧ p = red (cand ((mbits (n + m) t).map (CA n M)))
 | 0 => ⟨List.Pairwise.nil, Nat.le_refl _, by simp [upTo], by simp [upTo]⟩
 | s + 1 => by
  obtain ⟨h1, h2, h3, h4⟩ := upTo_is s
  unfold upTo putA
  by_cases c : okA n M (mbits (n + m) s) = true
  ·rw [if_pos c]
   have hlen : (red (cand ((mbits (n + m) s).map (CA n M)))).length = n + 1 := by
    rw [red_len, cand_len, List.length_map]
    unfold okA at c
    rw [Bool.and_eq_true] at c
    rw [of_decide_eq_true c.1]
   refine ⟨sorted_putL _ hlen _ h3 h1, ?_, fun a ha => ?_, fun p => ?_⟩
   ·have : ∀ (L : List (List Int)) (q : List Int), (putL L q).length ≤ L.length + 1 := by
     intro L q
     induction L with
     | nil => simp [putL]
     | cons a L ih => unfold putL; split <;> (try split) <;> simp <;> omega
    have := this (upTo n m M s) (red (cand ((mbits (n + m) s).map (CA n M))))
    omega
   ·rcases (mem_putL _ _ _).1 ha with rfl | ha
    ·exact hlen
    ·exact h3 a ha
   ·rw [mem_putL, h4]
    constructor
    ·rintro (rfl | ⟨t, t1, t2, t3⟩)
     ·exact ⟨s, by omega, c, rfl⟩
     ·exact ⟨t, by omega, t2, t3⟩
    ·rintro ⟨t, t1, t2, t3⟩
     by_cases e : t = s
     ·subst e; exact .inl t3
     ·exact .inr ⟨t, by omega, t2, t3⟩
  ·rw [if_neg c]
   refine ⟨h1, by omega, h3, fun p => ?_⟩
   rw [h4]
   constructor
   ·rintro ⟨t, t1, t2, t3⟩
    exact ⟨t, by omega, t2, t3⟩
   ·rintro ⟨t, t1, t2, t3⟩
    by_cases e : t = s
    ·subst e; exact absurd t2 c
    ·exact ⟨t, by omega, t2, t3⟩
omit hM in
theorem shl_is : shl .i64 1 ((n + m : Nat) : Int) = ((2 ^ (n + m) : Nat) : Int) := by
 rcases hn with rfl | rfl | rfl <;> rcases hm with rfl | rfl | rfl <;> kernel_rfl
theorem co_l0 (d : Nat) : ∀ s : Nat, s + d = 2 ^ (n + m) → Ev (fun k => spec_gmCorners.l0 k M (n : Int) (upTo n m M s) (s : Int)) (upTo n m M (2 ^ (n + m))) := by
 have hn3 : n ≤ 3 := by rcases hn with h | h | h <;> omega
 have hm3 : m ≤ 3 := by rcases hm with h | h | h <;> omega
 have hN : wrap64 ((n : Int) + (M.length : Int)) = ((n + m : Nat) : Int) := by rw [hM.1]; exact w_add n m (by omega)
 have hs := shl_is hn hm
 have h64 : 2 ^ (n + m) ≤ 2 ^ 6 := Nat.pow_le_pow_right (by decide) (by omega)
 have h0 : (0 : Int) ≤ ((n + m : Nat) : Int) := by omega
 generalize 2 ^ (n + m) = T at hs h64 ⊢
 induction d with
 | zero =>
  intro s he
  obtain rfl : s = T := by omega
  have hz : ¬ (s : Int) < (s : Int) := by omega
  refine Ev.step (fun k => ?_) (Ev.now _)
  simp only [spec_gmCorners.l0]
  rw [hN, hs, if_pos h0, if_neg hz]
 | succ d ih =>
  intro s he
  have hz : (s : Int) < (T : Int) := by omega
  have hs64 : s ≤ 1000 := by omega
  have key := ih (s + 1) (by omega)
  have es := w_succ s (by omega)
  obtain ⟨u1, u2, u3, u4⟩ := upTo_is hn hm hM s
  have h1 := co_l1 hn hm hM (upTo n m M s) s u3 (Nat.le_trans u2 hs64) (upTo n m M T) (by rw [es]; exact key) (n + m) 0 (Nat.zero_add _)
  refine Ev.step (fun k => ?_) h1
  simp only [spec_gmCorners.l0]
  rw [hN, hs, if_pos h0, if_pos hz]
  rfl
def cornersA (n m : Nat) (M : List (List Int)) : List (List Int) := upTo n m M (2 ^ (n + m))
theorem evCornersA : Ev (fun k => spec_gmCorners.f k M) (cornersA n m M) := by
 have hn1 : 1 ≤ n := by rcases hn with h | h | h <;> omega
 have hm1 : 0 < m := by rcases hm with h | h | h <;> omega
 have h0 : (0 : Int) < (M.length : Int) := by rw [hM.1]; omega
 have hr := (hM.2 _ (GmFig.getD_mem (show 0 < M.length by rw [hM.1]; exact hm1))).1
 have er : rd_L1 M 0 = M.getD 0 [] := rfl
 refine Ev.congr (fun k => ?_) (co_l0 hn hm hM (2 ^ (n + m)) 0 (Nat.zero_add _))
 unfold spec_gmCorners.f
 rw [if_pos h0, er, hr]
 rfl
theorem insB_red {q : List Int} (hq : q.length = n + 1) (hg : 0 < gcdL q) (F : Nat → H) (N : Nat) : insB F N (emb (red q)) = true ↔ ∀ k, k < N → 0 ≤ ev (F k) (emb q) := by
 rw [insB_iff]
 have e : ∀ k, ev (F k) (emb q) = (gcdL q : Int) * ev (F k) (emb (red q)) := fun k => ev_red hn hq (F k)
 have hg' : (0 : Int) < (gcdL q : Int) := by omega
 constructor
 ·intro h k hk
  rw [e k]
  exact Int.mul_nonneg (Int.le_of_lt hg') (h k hk)
 ·intro h k hk
  have := h k hk
  rw [e k] at this
  exact Int.nonneg_of_mul_nonneg_right this hg'
theorem mem_cornersA (p : List Int) : p ∈ cornersA n m M ↔ IsCorner (FA n M) (n + m) n p := by
 unfold cornersA
 rw [(upTo_is hn hm hM _).2.2.2]
 have hT := tellsA (dim := n) (M := M) (fun r hr => (hM.2 r hr).1)
 rw [hM.1] at hT
 rw [corner_iff hT hn]
 constructor
 ·rintro ⟨t, t1, t2, rfl⟩
  unfold okA at t2
  rw [Bool.and_eq_true, Bool.and_eq_true] at t2
  obtain ⟨a, b, c⟩ := t2
  have hl := of_decide_eq_true a
  have hb := of_decide_eq_true b
  have hcl : ((mbits (n + m) t).map (CA n M)).length = n := by rw [List.length_map, hl]
  have hcl2 : (cand ((mbits (n + m) t).map (CA n M))).length = n + 1 := by rw [cand_len, hcl]
  obtain ⟨x, hx, hx0⟩ := cand_last hn hcl2 (cand_pos hn hcl hb)
  rw [hM.1] at c
  exact ⟨mbits (n + m) t, hl, mbits_inc _ _, fun k hk => mbits_lt hk, hb, (insB_red hn hm hM hcl2 (gcdL_pos hx hx0) _ _).1 c, rfl⟩
 ·rintro ⟨S, hl, hI, hN, hb, hin, rfl⟩
  obtain ⟨t, t1, rfl⟩ := mbits_onto (n + m) S hI hN
  have hcl : ((mbits (n + m) t).map (CA n M)).length = n := by rw [List.length_map, hl]
  have hcl2 : (cand ((mbits (n + m) t).map (CA n M))).length = n + 1 := by rw [cand_len, hcl]
  obtain ⟨x, hx, hx0⟩ := cand_last hn hcl2 (cand_pos hn hcl hb)
  refine ⟨t, t1, ?_, rfl⟩
  unfold okA
  rw [Bool.and_eq_true, Bool.and_eq_true, hM.1]
  exact ⟨decide_eq_true hl, decide_eq_true hb, (insB_red hn hm hM hcl2 (gcdL_pos hx hx0) _ _).2 hin⟩
theorem sorted_cornersA : Sorted (cornersA n m M) := (upTo_is hn hm hM _).1
end
end Go.Proofs.Ytggiicplcglalaa.GmSpc
