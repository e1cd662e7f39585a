/- Part of the proof that the law FnExactCornersOf answers true for all arguments. -/
import Derived.Deep.Matrix
import Derived.Test.YtggiicplcglalaaQC31
section
namespace Go.Proofs.Ytggiicplcglalaa.GmLab
open Go.RowKit Go.Proofs.Ytggiicplcglalaa.All Go.Proofs.YtggiicplcglalaaW.PrintWords Go.Proofs.YtggiicplcglalaaW.PrintLast Go.Proofs.Ytggiicplcglalaa.Eqs Go.Proofs.Ytggiicplcglalaa.GmDet Go.Proofs.Ytggiicplcglalaa.GmRed Go.Proofs.Ytggiicplcglalaa.LH Go.Proofs.Ytggiicplcglalaa.GmDot Go.Proofs.Ytggiicplcglalaa.GmFig Go.Proofs.Ytggiicplcglalaa.GmPut Go.Proofs.Ytggiicplcglalaa.GmImp Go.Proofs.Ytggiicplcglalaa.GmFo Go.Proofs.Ytggiicplcglalaa.GmSpc
set_option linter.unusedVariables false
set_option linter.unusedSimpArgs false
set_option linter.unusedSectionVars false
theorem rdL_get {L : List (List Int)} {i : Nat} (h : i < L.length) : rd_L1 L (i : Int) = L[i] := by simp [rd_L1, List.getD, List.getElem?_eq_getElem h]
theorem tu_l1 (b : List (List Int)) (j : Nat) (hj : ∀ r ∈ b, j < r.length) (hl : b.length ≤ 1000) (x3 : List (List Int)) (hx3 : x3.length ≤ 1000) (x10 x11 : Int) (v : List (List Int)) (hfin : Ev (fun k => spec_gmTurned.l0 k b (x3 ++ [colAt b j]) x10 (wrap64 (x11 + 1))) v) (d : Nat) :
  ∀ i : Nat, i + d = b.length → Ev (fun k => spec_gmTurned.l1 k b x3 (j : Int) ((b.take i).map fun r => r.getD j 0) x10 x11 (b.length : Int) (i : Int)) v := by
 induction d with
 | zero =>
  intro i hi
  rw [List.take_of_length_le (by omega)]
  have hz : ¬ (i : Int) < (b.length : Int) := by omega
  have hx : x3.length < 5864062014805 := by omega
  refine Ev.step (fun k => ?_) hfin
  simp only [spec_gmTurned.l1]
  rw [if_neg hz, if_pos hx]
  rfl
 | succ d ih =>
  intro i hi
  have h1 : i < b.length := by omega
  have hr := hj _ (List.getElem_mem h1)
  have hz1 : (i : Int) < (b.length : Int) := by omega
  have hz2 : (0 : Int) ≤ (i : Int) := by omega
  have hz3 : (0 : Int) ≤ (j : Int) := by omega
  have hz4 : (j : Int) < ((b[i]).length : Int) := by omega
  have hz5 : ((b.take i).map fun r => r.getD j 0).length < 17592186044416 := by rw [List.length_map, List.length_take]; omega
  have ei := w_succ i (by omega)
  refine Ev.step (fun k => ?_) (ih (i + 1) (by omega))
  simp only [spec_gmTurned.l1]
  rw [if_pos hz1, if_pos hz2, if_pos hz1, rdL_get h1, if_pos hz3, if_pos hz4, if_pos hz5, rd_getElem hr, ei, List.take_succ_eq_append_getElem h1, List.map_append]
  simp only [List.map_cons, List.map_nil]
  rw [getD_of hr]
theorem evTurned {m n : Nat} (hm : d3 m) (hn : d3 n) {b : List (List Int)} (hb : Tab m n b) : Ev (fun k => spec_gmTurned.f k b) ((List.range n).map (colAt b)) := by
 have hm3 : 1 ≤ m ∧ m ≤ 3 := by rcases hm with h | h | h <;> omega
 have hn3 : n ≤ 3 := by rcases hn with h | h | h <;> omega
 have hl := hb.1
 have h0 : 0 < b.length := by omega
 have hz0 : (0 : Int) < (b.length : Int) := by omega
 have hr0 : rd_L1 b 0 = b[0] := rdL_get h0
 have hrl := (hb.2 _ (List.getElem_mem h0)).1
 have main : ∀ (d : Nat), ∀ j : Nat, j + d = n → Ev (fun k => spec_gmTurned.l0 k b ((List.range j).map (colAt b)) (n : Int) (j : Int)) ((List.range n).map (colAt b)) := by
  intro d
  induction d with
  | zero =>
   intro j hj
   obtain rfl : j = n := by omega
   have hz : ¬ (j : Int) < (j : Int) := by omega
   refine Ev.step (fun k => ?_) (Ev.now _)
   simp only [spec_gmTurned.l0]
   rw [if_neg hz]
  | succ d ih =>
   intro j hj
   have hjn : j < n := by omega
   have hz : (j : Int) < (n : Int) := by omega
   have ej := w_succ j (by omega)
   have key := ih (j + 1) (by omega)
   rw [List.range_succ, List.map_append] at key
   have h3 := tu_l1 b j (fun r hr => by rw [(hb.2 r hr).1]; exact hjn) (by omega) ((List.range j).map (colAt b)) (by rw [List.length_map, List.length_range]; omega) (n : Int) (j : Int) _ (by rw [ej]; exact key) b.length 0 (Nat.zero_add _)
   refine Ev.step (fun k => ?_) h3
   simp only [spec_gmTurned.l0]
   rw [if_pos hz]
   rfl
 refine Ev.congr (fun k => ?_) (main n 0 (Nat.zero_add n))
 unfold spec_gmTurned.f
 rw [if_pos hz0, hr0, hrl]
 rfl
theorem fi_l1 (T : List (List Int)) (x6 : List (List Int)) (hx6 : x6.length ≤ 1000) (r : List Int) (hr : ∀ x ∈ r, -9 ≤ x ∧ x ≤ 9) (hl : r.length ≤ 1000) (x20 x21 : Int) (v : List (List Int)) (hfin : Ev (fun k => spec_gmFigure.l0 k (x6 ++ [plus r]) T x20 (wrap64 (x21 + 1))) v) (d : Nat) :
  ∀ i : Nat, i + d = r.length → Ev (fun k => spec_gmFigure.l1 k x6 ((r.take i).map (· + 10)) T x20 x21 r (r.length : Int) (i : Int)) v := by
 induction d with
 | zero =>
  intro i hi
  rw [List.take_of_length_le (by omega)]
  have hz : ¬ (i : Int) < (r.length : Int) := by omega
  have hx : x6.length < 5864062014805 := by omega
  refine Ev.step (fun k => ?_) hfin
  simp only [spec_gmFigure.l1]
  rw [if_neg hz, if_pos hx]
  rfl
 | succ d ih =>
  intro i hi
  have h1 : i < r.length := by omega
  have hb := hr _ (List.getElem_mem h1)
  have hz1 : (i : Int) < (r.length : Int) := by omega
  have hz2 : (0 : Int) ≤ (i : Int) := by omega
  have hz5 : ((r.take i).map (· + 10)).length < 17592186044416 := by rw [List.length_map, List.length_take]; omega
  have ei := w_succ i (by omega)
  have ew : wrap64 (r[i] + 10) = r[i] + 10 := wrap_id (by omega) (by omega)
  refine Ev.step (fun k => ?_) (ih (i + 1) (by omega))
  simp only [spec_gmFigure.l1]
  rw [if_pos hz1, if_pos hz2, if_pos hz1, if_pos hz5, rd_getElem h1, ew, ei, List.take_succ_eq_append_getElem h1, List.map_append]
  rfl
theorem fi_j0 (T : List (List Int)) (hT : ∀ r ∈ T, r.length ≤ 1000 ∧ ∀ x ∈ r, -9 ≤ x ∧ x ≤ 9) (hl : T.length ≤ 1000) : Ev (fun k => spec_gmFigure.j0 k T) (T.map plus) := by
 have main : ∀ (d : Nat), ∀ i : Nat, i + d = T.length → Ev (fun k => spec_gmFigure.l0 k ((T.take i).map plus) T (T.length : Int) (i : Int)) (T.map plus) := by
  intro d
  induction d with
  | zero =>
   intro i hi
   rw [List.take_of_length_le (by omega)]
   have hz : ¬ (i : Int) < (T.length : Int) := by omega
   refine Ev.step (fun k => ?_) (Ev.now _)
   simp only [spec_gmFigure.l0]
   rw [if_neg hz]
  | succ d ih =>
   intro i hi
   have h1 : i < T.length := by omega
   have hz1 : (i : Int) < (T.length : Int) := by omega
   have hz2 : (0 : Int) ≤ (i : Int) := by omega
   have ei := w_succ i (by omega)
   have key := ih (i + 1) (by omega)
   rw [List.take_succ_eq_append_getElem h1, List.map_append] at key
   obtain ⟨t1, t2⟩ := hT _ (List.getElem_mem h1)
   have h3 := fi_l1 T ((T.take i).map plus) (by rw [List.length_map, List.length_take]; omega) T[i] t2 t1 (T.length : Int) (i : Int) _ (by rw [ei]; exact key) (T[i]).length 0 (Nat.zero_add _)
   refine Ev.step (fun k => ?_) h3
   simp only [spec_gmFigure.l0]
   rw [if_pos hz1, if_pos hz2, if_pos hz1, rdL_get h1]
   rfl
 exact Ev.step (fun k => by simp only [spec_gmFigure.j0]; rfl) (main T.length 0 (Nat.zero_add _))
theorem evFigS1 {m n : Nat} (hm : d3 m) (hn : d3 n) {a b : List (List Int)} (hb : Tab m n b) : Ev (fun k => spec_gmFigure.f k a b 1) (M1 n b) := by
 have hm3 : m ≤ 3 := by rcases hm with h | h | h <;> omega
 have hn3 : n ≤ 3 := by rcases hn with h | h | h <;> omega
 have hl := hb.1
 have hj := fi_j0 ((List.range n).map (colAt b)) (fun r hr => by
  obtain ⟨j, hj, rfl⟩ := List.mem_map.1 hr
  have hj := List.mem_range.1 hj
  refine ⟨by simp [colAt]; omega, fun x hx => ?_⟩
  obtain ⟨q, hq, rfl⟩ := List.mem_map.1 hx
  obtain ⟨q1, q2⟩ := hb.2 q hq
  rw [getD_of (by omega)]
  exact q2 _ (List.getElem_mem _)) (by rw [List.length_map, List.length_range]; omega)
 rw [List.map_map] at hj
 refine Ev.congr (fun k => ?_) (Ev.bind (evTurned hm hn hb) hj)
 unfold spec_gmFigure.f
 rw [if_pos rfl]
theorem evFigS2 {m n : Nat} (hm : d3 m) (hn : d3 n) {a b : List (List Int)} (ha : Tab m n a) : Ev (fun k => spec_gmFigure.f k a b 2) (M2 a) := by
 have hm3 : m ≤ 3 := by rcases hm with h | h | h <;> omega
 have hn3 : n ≤ 3 := by rcases hn with h | h | h <;> omega
 have hl := ha.1
 refine Ev.congr (fun k => ?_) (fi_j0 a (fun r hr => ⟨by rw [(ha.2 r hr).1]; omega, (ha.2 r hr).2⟩) (by omega))
 unfold spec_gmFigure.f
 rw [if_neg (by decide)]
def insI : List Int → Int → List Int
 | [], p => [p]
 | a :: L, p => if a < p then a :: insI L p else if a = p then a :: L else p :: a :: L
theorem mem_insI (p q : Int) : ∀ L : List Int, q ∈ insI L p ↔ q = p ∨ q ∈ L
 | [] => by simp [insI]
 | a :: L => by
  unfold insI
  by_cases h : a < p
  ·rw [if_pos h, List.mem_cons, mem_insI p q L, List.mem_cons]
   constructor
   ·rintro (h | h | h)
    ·exact .inr (.inl h)
    ·exact .inl h
    ·exact .inr (.inr h)
   ·rintro (h | h | h)
    ·exact .inr (.inl h)
    ·exact .inl h
    ·exact .inr (.inr h)
  ·rw [if_neg h]
   by_cases e : a = p
   ·rw [if_pos e]; subst e; simp
   ·rw [if_neg e]; simp
theorem sorted_insI (p : Int) : ∀ L : List Int, L.Pairwise (· < ·) → (insI L p).Pairwise (· < ·)
 | [], _ => by simp [insI]
 | a :: L, hs => by
  obtain ⟨h1, h2⟩ := List.pairwise_cons.mp hs
  unfold insI
  by_cases h : a < p
  ·rw [if_pos h]
   refine List.pairwise_cons.mpr ⟨fun b hb => ?_, sorted_insI p L h2⟩
   rcases (mem_insI p b L).1 hb with rfl | hb
   ·exact h
   ·exact h1 b hb
  ·rw [if_neg h]
   by_cases e : a = p
   ·rw [if_pos e]; exact hs
   ·rw [if_neg e]
    refine List.pairwise_cons.mpr ⟨fun b hb => ?_, hs⟩
    rcases List.mem_cons.1 hb with rfl | hb
    ·omega
    ·have := h1 b hb; omega
theorem len_insI (p : Int) : ∀ L : List Int, (insI L p).length ≤ L.length + 1
 | [] => by simp [insI]
 | a :: L => by
  have := len_insI p L
  unfold insI
  split
  ·simp; omega
  ·split <;> simp
theorem ext_lt : ∀ {L M : List Int}, L.Pairwise (· < ·) → M.Pairwise (· < ·) → (∀ p, p ∈ L ↔ p ∈ M) → L = M
 | [], [], _, _, _ => rfl
 | [], b :: M, _, _, h => by have := (h b).mpr (by simp); simp at this
 | a :: L, [], _, _, h => by have := (h a).mp (by simp); simp at this
 | a :: L, b :: M, hL, hM, h => by
  obtain ⟨a1, a2⟩ := List.pairwise_cons.mp hL
  obtain ⟨b1, b2⟩ := List.pairwise_cons.mp hM
  have e : a = b := by
   have x := (h a).mp (by simp)
   have y := (h b).mpr (by simp)
   rcases List.mem_cons.mp x with x | x
   ·exact x
   ·rcases List.mem_cons.mp y with y | y
    ·exact y.symm
    ·have := b1 a x; have := a1 b y; omega
  subst e
  rw [ext_lt a2 b2 (fun p => ?_)]
  constructor
  ·intro hp
   rcases List.mem_cons.mp ((h p).mp (List.mem_cons_of_mem _ hp)) with e | e
   ·subst e; have := a1 p hp; omega
   ·exact e
  ·intro hp
   rcases List.mem_cons.mp ((h p).mpr (List.mem_cons_of_mem _ hp)) with e | e
   ·subst e; have := b1 p hp; omega
   ·exact e
theorem insI_skip {a p : Int} (L : List Int) (h : a < p) : insI (a :: L) p = a :: insI L p := by
 simp only [insI]; rw [if_pos h]
theorem lput_l0 (L : List Int) (p : Int) (hl : L.length ≤ 1000) (d : Nat) : ∀ i : Nat, i + d = L.length → Ev (fun k => spec_l1Put.l0 k L p (i : Int)) (L.take i ++ insI (L.drop i) p) := by
 induction d with
 | zero =>
  intro i hi
  have e1 : L.drop i = [] := List.drop_eq_nil_of_le (by omega)
  have e2 : L.take i = L := List.take_of_length_le (by omega)
  rw [e1, e2]
  refine Ev.step (fun k => ?_) (Ev.now _)
  simp only [spec_l1Put.l0, Option.bind_some, List.nil_append, Int.toNat_natCast]
  rw [if_neg (by omega), if_pos (by omega), if_pos (by omega), e1, e2, if_pos (by simp; omega), if_pos (by omega), if_pos (by simp; omega), List.append_nil]
  rfl
 | succ d ih =>
  intro i hi
  have h1 : i < L.length := by omega
  have hz1 : (i : Int) < (L.length : Int) := by omega
  have hz2 : (0 : Int) ≤ (i : Int) := by omega
  have hz3 : (i : Int) ≤ (L.length : Int) := by omega
  have ei := w_succ i (by omega)
  have key := ih (i + 1) (by omega)
  have hl1 : ([] : List Int).length + (L.take i).length < 17592186044416 := by simp; omega
  have hl2 : (L.take i).length < 17592186044416 := by simp; omega
  have hl3 : (L.take i ++ [p]).length + (L.drop i).length < 17592186044416 := by simp; omega
  have hd : L.drop i = L[i] :: L.drop (i + 1) := List.drop_eq_getElem_cons h1
  by_cases c : L[i] < p
  ·have e : L.take (i + 1) ++ insI (L.drop (i + 1)) p = L.take i ++ insI (L.drop i) p := by
    rw [hd, insI_skip _ c, List.take_succ_eq_append_getElem h1, List.append_assoc]
    rfl
   rw [e] at key
   refine Ev.step (fun k => ?_) key
   simp only [spec_l1Put.l0]
   rw [if_pos hz1, if_pos hz2, rd_getElem h1, if_pos c, ei]
  ·by_cases e : L[i] = p
   ·have e2 : L.take i ++ insI (L.drop i) p = L := by
     rw [hd]
     unfold insI
     rw [if_neg c, if_pos e, ← hd, List.take_append_drop]
    rw [e2]
    refine Ev.step (fun k => ?_) (Ev.now _)
    simp only [spec_l1Put.l0]
    rw [if_pos hz1, if_pos hz2, rd_getElem h1, if_neg c, if_pos e]
   ·have e2 : insI (L.drop i) p = p :: L.drop i := by
     rw [hd]
     unfold insI
     rw [if_neg c, if_neg e]
    rw [e2]
    refine Ev.step (fun k => ?_) (Ev.now _)
    simp only [spec_l1Put.l0, Option.bind_some, Int.toNat_natCast]
    rw [if_pos hz1, if_pos hz2, rd_getElem h1, if_neg c, if_neg e, if_pos hz3, if_pos hl1]
    simp only [List.nil_append]
    rw [if_pos hl2, if_pos hl3, List.append_assoc]
    rfl
theorem evLput (L : List Int) (p : Int) (hl : L.length ≤ 1000) : Ev (fun k => spec_l1Put.f k L p) (insI L p) := lput_l0 L p hl L.length 0 (Nat.zero_add _)
theorem foldI (xs : List Int) : ∀ L : List Int, L.Pairwise (· < ·) → (xs.foldl insI L).Pairwise (· < ·) ∧ ∀ q, q ∈ xs.foldl insI L ↔ q ∈ L ∨ q ∈ xs := by
 induction xs with
 | nil => intro L hL; exact ⟨hL, fun q => by simp⟩
 | cons a xs ih =>
  intro L hL
  obtain ⟨h1, h2⟩ := ih (insI L a) (sorted_insI a L hL)
  refine ⟨h1, fun q => ?_⟩
  rw [List.foldl_cons, h2, mem_insI, List.mem_cons]
  constructor
  ·rintro ((h | h) | h)
   ·exact .inr (.inl h)
   ·exact .inl h
   ·exact .inr (.inr h)
  ·rintro (h | h | h)
   ·exact .inl (.inr h)
   ·exact .inl (.inl h)
   ·exact .inr h
theorem len_foldI (xs : List Int) : ∀ L : List Int, (xs.foldl insI L).length ≤ L.length + xs.length := by
 induction xs with
 | nil => intro L; simp
 | cons a xs ih =>
  intro L
  have h1 := ih (insI L a)
  have h2 := len_insI a L
  simp only [List.foldl_cons, List.length_cons]
  omega
theorem fold_small (xs : List Int) (h : xs.length ≤ 1000) : (xs.foldl insI []).length ≤ 1000 := by
 have := len_foldI xs []
 simp only [List.length_nil] at this
 omega
def labI (F : Nat → H) (N : Nat) (p : List Int) : List Int := (labs F N (emb p)).map Int.ofNat
theorem labTo_labI (F : Nat → H) (N : Nat) (p : List Int) : labTo F (emb p) N = labI F N p := rfl
theorem labI_sorted (F : Nat → H) (N : Nat) (p : List Int) : (labI F N p).Pairwise (· < ·) := by
 unfold labI labs
 rw [List.pairwise_map]
 exact (List.Pairwise.filter _ List.pairwise_lt_range).imp fun {a b} h => by show (a : Int) < (b : Int); omega
theorem mem_labI (F : Nat → H) (N : Nat) (p : List Int) (x : Int) : x ∈ labI F N p ↔ ∃ k : Nat, k < N ∧ ev (F k) (emb p) = 0 ∧ x = (k : Int) := by
 unfold labI labs
 rw [List.mem_map]
 constructor
 ·rintro ⟨k, hk, rfl⟩
  obtain ⟨h1, h2⟩ := List.mem_filter.1 hk
  exact ⟨k, List.mem_range.1 h1, of_decide_eq_true h2, rfl⟩
 ·rintro ⟨k, h1, h2, rfl⟩
  exact ⟨k, List.mem_filter.2 ⟨List.mem_range.2 h1, decide_eq_true h2⟩, rfl⟩
theorem labI_len (F : Nat → H) (N : Nat) (p : List Int) : (labI F N p).length ≤ N := by
 have := labTo_len F (emb p) N
 rwa [labTo_labI] at this
def turnI (n m : Nat) (x : Int) : Int := if x < n then x + m else x - n
theorem turn_labs {n m : Nat} {M : List (List Int)} (hM : M.length = m) (p : List Int) : ((labI (FA n M) (n + m) p).map (turnI n m)).foldl insI [] = labI (FB n M) (n + m) p := by
 obtain ⟨h1, h2⟩ := foldI ((labI (FA n M) (n + m) p).map (turnI n m)) [] List.Pairwise.nil
 refine ext_lt h1 (labI_sorted _ _ _) fun x => ?_
 rw [h2, List.mem_map, mem_labI]
 constructor
 ·rintro (h | ⟨y, hy, rfl⟩)
  ·simp at h
  ·obtain ⟨k, k1, k2, rfl⟩ := (mem_labI _ _ _ _).1 hy
   obtain ⟨e1, e2⟩ := FA_FB n M (k := k) (by omega)
   rw [hM] at e1 e2
   refine ⟨turnAB n m k, e1, by rw [← e2]; exact k2, ?_⟩
   unfold turnI turnAB
   by_cases c : k < n
   ·rw [if_pos c, if_pos (by omega)]; omega
   ·rw [if_neg c, if_neg (by omega)]; omega
 ·rintro ⟨k, k1, k2, rfl⟩
  obtain ⟨j, j1, j2, j3⟩ := FB_FA n M (k := k) (by omega)
  rw [hM] at j1 j2
  refine .inr ⟨(j : Int), (mem_labI _ _ _ _).2 ⟨j, j1, by rw [← j3]; exact k2, rfl⟩, ?_⟩
  rw [← j2]
  unfold turnI turnAB
  by_cases c : j < n
  ·rw [if_pos c, if_pos (by omega)]; omega
  ·rw [if_neg c, if_neg (by omega)]; omega
theorem same_labs {n m : Nat} {M : List (List Int)} (p : List Int) : (labI (FA n M) (n + m) p).foldl insI [] = labI (FA n M) (n + m) p := by
 obtain ⟨h1, h2⟩ := foldI (labI (FA n M) (n + m) p) [] List.Pairwise.nil
 exact ext_lt h1 (labI_sorted _ _ _) fun x => by rw [h2]; simp
theorem la_1 (m n : Int) (L : List Int) (hl : L.length ≤ 100) (d : Nat) : ∀ i : Nat, i + d = L.length → Ev (fun k => spec_gmLabels.l0 k 1 m n ((L.take i).foldl insI []) L (L.length : Int) (i : Int)) (L.foldl insI []) := by
 induction d with
 | zero =>
  intro i hi
  rw [List.take_of_length_le (by omega)]
  have hz : ¬ (i : Int) < (L.length : Int) := by omega
  refine Ev.step (fun k => ?_) (Ev.now _)
  simp only [spec_gmLabels.l0]
  rw [if_neg hz]
 | succ d ih =>
  intro i hi
  have h1 : i < L.length := by omega
  have hz1 : (i : Int) < (L.length : Int) := by omega
  have hz2 : (0 : Int) ≤ (i : Int) := by omega
  have h12 : ¬ (1 : Int) = 2 := by decide
  have ei := w_succ i (by omega)
  have key := ih (i + 1) (by omega)
  rw [List.take_succ_eq_append_getElem h1, List.foldl_append] at key
  have hput := evLput ((L.take i).foldl insI []) L[i] (fold_small _ (by rw [List.length_take]; omega))
  refine Ev.step (f := fun k => (spec_l1Put.f k ((L.take i).foldl insI []) L[i]).bind fun t660 => (spec_gmLabels.l0 k 1 m n t660 L (L.length : Int) ((i + 1 : Nat) : Int))) (fun k => ?_) (Ev.bind hput key)
  simp only [spec_gmLabels.l0]
  rw [if_pos hz1, if_pos hz2, if_pos hz1, if_neg h12, rd_getElem h1, ei]
theorem turnI_steps {m n : Nat} {x : Int} (hm : m ≤ 3) (hn : n ≤ 3) (h0 : 0 ≤ x) (h1 : x < (n : Int) + m) : wrap64 (x + (m : Int)) = x + (m : Int) ∧ wrap64 ((m : Int) + (n : Int)) = (m : Int) + (n : Int) ∧ (x < (n : Int) → ¬ x + (m : Int) ≥ (m : Int) + (n : Int)) ∧ (¬ x < (n : Int) → x + (m : Int) ≥ (m : Int) + (n : Int) ∧ wrap64 (x + (m : Int) - ((m : Int) + (n : Int))) = x - (n : Int)) := by
 refine ⟨wrap_id (by omega) (by omega), wrap_id (by omega) (by omega), fun h => by omega, fun h => ⟨by omega, ?_⟩⟩
 rw [wrap_id (by omega) (by omega)]
 omega
theorem la_2 {m n : Nat} (hm : m ≤ 3) (hn : n ≤ 3) (L : List Int) (hL : ∀ x ∈ L, 0 ≤ x ∧ x < (n : Int) + m) (hl : L.length ≤ 100) (d : Nat) : ∀ i : Nat, i + d = L.length → Ev (fun k => spec_gmLabels.l0 k 2 (m : Int) (n : Int) (((L.take i).map (turnI n m)).foldl insI []) L (L.length : Int) (i : Int)) ((L.map (turnI n m)).foldl insI []) := by
 induction d with
 | zero =>
  intro i hi
  rw [List.take_of_length_le (by omega)]
  have hz : ¬ (i : Int) < (L.length : Int) := by omega
  refine Ev.step (fun k => ?_) (Ev.now _)
  simp only [spec_gmLabels.l0]
  rw [if_neg hz]
 | succ d ih =>
  intro i hi
  have h1 : i < L.length := by omega
  have hz1 : (i : Int) < (L.length : Int) := by omega
  have hz2 : (0 : Int) ≤ (i : Int) := by omega
  have ei := w_succ i (by omega)
  have key := ih (i + 1) (by omega)
  rw [List.take_succ_eq_append_getElem h1, List.map_append, List.foldl_append] at key
  have hput := evLput (((L.take i).map (turnI n m)).foldl insI []) (turnI n m L[i]) (fold_small _ (by rw [List.length_map, List.length_take]; omega))
  obtain ⟨x0, x1⟩ := hL _ (List.getElem_mem h1)
  obtain ⟨w1, w2, w3, w4⟩ := turnI_steps hm hn x0 x1
  refine Ev.step (f := fun k => (spec_l1Put.f k (((L.take i).map (turnI n m)).foldl insI []) (turnI n m L[i])).bind fun t660 => (spec_gmLabels.l0 k 2 (m : Int) (n : Int) t660 L (L.length : Int) ((i + 1 : Nat) : Int))) (fun k => ?_) (Ev.bind hput key)
  simp only [spec_gmLabels.l0]
  rw [if_pos hz1, if_pos hz2, if_pos hz1, if_pos trivial, rd_getElem h1, ei, w1, w2]
  unfold turnI
  by_cases c : L[i] < (n : Int)
  ·rw [if_neg (w3 c), if_pos c]
  ·rw [if_pos (w4 c).1, if_neg c, (w4 c).2]
section
variable {m n : Nat} (hm : d3 m) (hn : d3 n) {a b : List (List Int)} (ha : Tab m n a) (hb : Tab m n b) (h0 : (a.getD 0 []).length = n)
include hm hn ha hb h0
def V1 (m n : Nat) (b : List (List Int)) : List (List Int) := cornersA m n (M1 n b)
def V2 (m n : Nat) (a : List (List Int)) : List (List Int) := cornersA n m (M2 a)
def lab1 (m n : Nat) (b : List (List Int)) (p : List Int) : List Int := labI (FA m (M1 n b)) (m + n) p
def lab2 (m n : Nat) (a : List (List Int)) (p : List Int) : List Int := labI (FB n (M2 a)) (n + m) p
theorem evLabS1 {p : List Int} (hp : IsCorner (FA m (M1 n b)) (m + n) m p) (hy : ∀ x ∈ p, x.natAbs ≤ 1000000000) : Ev (fun k => spec_gmLabels.f k a b 1 p) (lab1 m n b p) := by
 have hs := sums1 hb
 have hm1 : 0 < m := by rcases hm with h | h | h <;> omega
 have hm3 : m ≤ 3 := by rcases hm with h | h | h <;> omega
 have hn3 : n ≤ 3 := by rcases hn with h | h | h <;> omega
 have hin : insB (FA m (M1 n b)) (m + n) (emb p) = true := (insB_iff _ _ _).2 hp.2.2.2.1
 have hmet := evMet hm hn hs hp.1 hy
 rw [if_pos hin, labTo_labI] at hmet
 have hll := labI_len (FA m (M1 n b)) (m + n) p
 have hla := la_1 (m : Int) (n : Int) (labI (FA m (M1 n b)) (m + n) p) (by omega) (labI (FA m (M1 n b)) (m + n) p).length 0 (Nat.zero_add _)
 rw [same_labs] at hla
 have hz : (0 : Int) < (m : Int) := by omega
 have er : rd_L1 a 0 = a.getD 0 [] := rfl
 refine Ev.congr (f := fun k => (spec_gmFigure.f k a b 1).bind fun t645 => ((spec_gmMet.f k t645 p).bind fun bt648 => (spec_gmLabels.l0 k 1 (m : Int) (n : Int) ([] : List Int) bt648.1 (bt648.1.length : Int) 0))) (fun k => ?_) (Ev.bind (evFigS1 hm hn hb) (Ev.bind hmet hla))
 unfold spec_gmLabels.f
 simp only [er, h0, ha.1, if_pos hz]
theorem evLabS2 {p : List Int} (hp : IsCorner (FA n (M2 a)) (n + m) n p) (hy : ∀ x ∈ p, x.natAbs ≤ 1000000000) : Ev (fun k => spec_gmLabels.f k a b 2 p) (lab2 m n a p) := by
 have hs := sums2 ha
 have hm1 : 0 < m := by rcases hm with h | h | h <;> omega
 have hm3 : m ≤ 3 := by rcases hm with h | h | h <;> omega
 have hn3 : n ≤ 3 := by rcases hn with h | h | h <;> omega
 have hin : insB (FA n (M2 a)) (n + m) (emb p) = true := (insB_iff _ _ _).2 hp.2.2.2.1
 have hmet := evMet hn hm hs hp.1 hy
 rw [if_pos hin, labTo_labI] at hmet
 have hll := labI_len (FA n (M2 a)) (n + m) p
 have hla := la_2 hm3 hn3 (labI (FA n (M2 a)) (n + m) p) (fun x hx => by
  obtain ⟨k, k1, _, rfl⟩ := (mem_labI _ _ _ _).1 hx
  omega) (by omega) (labI (FA n (M2 a)) (n + m) p).length 0 (Nat.zero_add _)
 rw [turn_labs hs.1] at hla
 have hz : (0 : Int) < (m : Int) := by omega
 have er : rd_L1 a 0 = a.getD 0 [] := rfl
 refine Ev.congr (f := fun k => (spec_gmFigure.f k a b 2).bind fun t645 => ((spec_gmMet.f k t645 p).bind fun bt648 => (spec_gmLabels.l0 k 2 (m : Int) (n : Int) ([] : List Int) bt648.1 (bt648.1.length : Int) 0))) (fun k => ?_) (Ev.bind (evFigS2 hm hn ha) (Ev.bind hmet hla))
 unfold spec_gmLabels.f
 simp only [er, h0, ha.1, if_pos hz]
theorem corners1 : sortUniq (ptsOf (listA m (M1 n b)) m) = V1 m n b := by
 have hc := condsA hm hn (sums1 hb)
 refine sorted_ext (corners_sorted hc) (sorted_cornersA hm hn (sums1 hb)) fun p => ?_
 rw [mem_corners hc, cornerA hm, (sums1 hb).1]
 exact (mem_cornersA hm hn (sums1 hb) p).symm
theorem corners2 : sortUniq (ptsOf (listB n (M2 a)) n) = V2 m n a := by
 have hc := condsB hn hm (sums2 ha)
 refine sorted_ext (corners_sorted hc) (sorted_cornersA hn hm (sums2 ha)) fun p => ?_
 rw [mem_corners hc, cornerB hn, (sums2 ha).1]
 exact (mem_cornersA hn hm (sums2 ha) p).symm
theorem memV1 (p : List Int) : p ∈ V1 m n b ↔ IsCorner (FA m (M1 n b)) (m + n) m p := mem_cornersA hm hn (sums1 hb) p
theorem memV2 (p : List Int) : p ∈ V2 m n a ↔ IsCorner (FA n (M2 a)) (n + m) n p := mem_cornersA hn hm (sums2 ha) p
theorem bdV1 {p : List Int} (hp : p ∈ V1 m n b) : p.length = m + 1 ∧ ∀ x ∈ p, x.natAbs ≤ 185193 := by
 rw [← corners1 hm hn ha hb h0, sortUniq_mem] at hp
 exact ptsOf_bd (condsA hm hn (sums1 hb)) hp
theorem bdV2 {p : List Int} (hp : p ∈ V2 m n a) : p.length = n + 1 ∧ ∀ x ∈ p, x.natAbs ≤ 185193 := by
 rw [← corners2 hm hn ha hb h0, sortUniq_mem] at hp
 exact ptsOf_bd (condsB hn hm (sums2 ha)) hp
theorem evCor1 : Ev (fun k => impl_figure_corners.f k (m : Int) (listA m (M1 n b))) (V1 m n b) := by
 have hc := condsA hm hn (sums1 hb)
 have hne : ptsOf (listA m (M1 n b)) m ≠ [] := by
  have := (mem_ptsOf hc (origin m)).2 ((cornerA hm _ _).2 (origin_corner hm _ (fun r hr => ((sums1 hb).2 r hr).1)))
  exact fun e => by rw [e] at this; simp at this
 rw [← corners1 hm hn ha hb h0]
 exact evCorners hc (nonNegA hm _) hne
theorem evCor2 : Ev (fun k => impl_figure_corners.f k (n : Int) (listB n (M2 a))) (V2 m n a) := by
 have hc := condsB hn hm (sums2 ha)
 have hne : ptsOf (listB n (M2 a)) n ≠ [] := by
  have := (mem_ptsOf hc (origin n)).2 ((cornerB hn _ _).2 (origin_corner hn _ (fun r hr => ((sums2 ha).2 r hr).1)))
  exact fun e => by rw [e] at this; simp at this
 rw [← corners2 hm hn ha hb h0]
 exact evCorners hc (nonNegB hn _) hne
theorem evLab1 {p : List Int} (hp : p ∈ V1 m n b) (a0 : Int) : Ev (fun k => impl_figure_labelsAt.f k a0 (listA m (M1 n b)) p) (lab1 m n b p) := by
 obtain ⟨p1, p2⟩ := bdV1 hm hn ha hb h0 hp
 have := evLabels (condsA hm hn (sums1 hb)) p p1 (fun x hx => Nat.le_trans (p2 x hx) (by decide)) a0
 rw [labsA, (sums1 hb).1] at this
 exact this
theorem evLab2 {p : List Int} (hp : p ∈ V2 m n a) (a0 : Int) : Ev (fun k => impl_figure_labelsAt.f k a0 (listB n (M2 a)) p) (lab2 m n a p) := by
 obtain ⟨p1, p2⟩ := bdV2 hm hn ha hb h0 hp
 have := evLabels (condsB hn hm (sums2 ha)) p p1 (fun x hx => Nat.le_trans (p2 x hx) (by decide)) a0
 rw [labsB, (sums2 ha).1] at this
 exact this
theorem evLabS1' {p : List Int} (hp : p ∈ V1 m n b) : Ev (fun k => spec_gmLabels.f k a b 1 p) (lab1 m n b p) :=
 evLabS1 hm hn ha hb h0 ((memV1 hm hn ha hb h0 p).1 hp) (fun x hx => Nat.le_trans ((bdV1 hm hn ha hb h0 hp).2 x hx) (by decide))
theorem evLabS2' {p : List Int} (hp : p ∈ V2 m n a) : Ev (fun k => spec_gmLabels.f k a b 2 p) (lab2 m n a p) :=
 evLabS2 hm hn ha hb h0 ((memV2 hm hn ha hb h0 p).1 hp) (fun x hx => Nat.le_trans ((bdV2 hm hn ha hb h0 hp).2 x hx) (by decide))
end
end Go.Proofs.Ytggiicplcglalaa.GmLab
end
section
namespace Go.Proofs.Ytggiicplcglalaa.GmLab
open Go.RowKit Go.Proofs.Ytggiicplcglalaa.All Go.Proofs.YtggiicplcglalaaW.PrintWords Go.Proofs.YtggiicplcglalaaW.PrintLast Go.Proofs.Ytggiicplcglalaa.Eqs Go.Proofs.Ytggiicplcglalaa.GmDet Go.Proofs.Ytggiicplcglalaa.LH Go.Proofs.Ytggiicplcglalaa.GmFig Go.Proofs.Ytggiicplcglalaa.GmPut Go.Proofs.Ytggiicplcglalaa.GmImp Go.Proofs.Ytggiicplcglalaa.GmFo Go.Proofs.Ytggiicplcglalaa.GmSpc Go.Proofs.Ytggiicplcglalaa.Games
set_option linter.unusedVariables false
set_option linter.unusedSimpArgs false
set_option linter.unusedSectionVars false
section
variable {m n : Nat} (hm : d3 m) (hn : d3 n) {a b : List (List Int)} (ha : Tab m n a) (hb : Tab m n b) (h0 : (a.getD 0 []).length = n)
include hm hn ha hb h0
theorem lenV1 : (V1 m n b).length ≤ 64 := by
 have := (upTo_is hm hn (sums1 hb) (2 ^ (m + n))).2.1
 have h64 : 2 ^ (m + n) ≤ 2 ^ 6 := Nat.pow_le_pow_right (by decide) (by rcases hm with h | h | h <;> rcases hn with h' | h' | h' <;> omega)
 exact Nat.le_trans this h64
theorem lenV2 : (V2 m n a).length ≤ 64 := by
 have := (upTo_is hn hm (sums2 ha) (2 ^ (n + m))).2.1
 have h64 : 2 ^ (n + m) ≤ 2 ^ 6 := Nat.pow_le_pow_right (by decide) (by rcases hm with h | h | h <;> rcases hn with h' | h' | h' <;> omega)
 exact Nat.le_trans this h64
end
end Go.Proofs.Ytggiicplcglalaa.GmLab
end
section
namespace Go.Proofs.Ytggiicplcglalaa.GmLab
open Go.RowKit Go.Proofs.Ytggiicplcglalaa.All Go.Proofs.YtggiicplcglalaaW.PrintWords Go.Proofs.YtggiicplcglalaaW.PrintLast Go.Proofs.Ytggiicplcglalaa.Eqs Go.Proofs.Ytggiicplcglalaa.GmDet Go.Proofs.Ytggiicplcglalaa.LH Go.Proofs.Ytggiicplcglalaa.GmFig Go.Proofs.Ytggiicplcglalaa.GmPut Go.Proofs.Ytggiicplcglalaa.GmImp Go.Proofs.Ytggiicplcglalaa.GmFo Go.Proofs.Ytggiicplcglalaa.GmSpc Go.Proofs.Ytggiicplcglalaa.Games Go.Proofs.Ytggiicplcglalaa.L1
set_option linter.unusedVariables false
set_option linter.unusedSimpArgs false
set_option linter.unusedSectionVars false
structure Side (a b : List (List Int)) (q : Int) (D : Nat) (l : List S70) (M V : List (List Int)) (lab : List Int → List Int) : Prop where
 len : V.length ≤ 64
 bd : ∀ p ∈ V, p.length = D + 1 ∧ ∀ x ∈ p, x.natAbs ≤ 185193
 d3 : D = 1 ∨ D = 2 ∨ D = 3
 labl : ∀ p, (lab p).length ≤ 6
 fig : Ev (fun k => impl_Game_figureOf.f k a b q) ((D : Int), l)
 cor : Ev (fun k => impl_figure_corners.f k (D : Int) l) V
 lb : ∀ p ∈ V, Ev (fun k => impl_figure_labelsAt.f k (D : Int) l p) (lab p)
 sfig : Ev (fun k => spec_gmFigure.f k a b q) M
 scor : Ev (fun k => spec_gmCorners.f k M) V
 slb : ∀ p ∈ V, Ev (fun k => spec_gmLabels.f k a b q p) (lab p)
theorem side_of {m n : Nat} (hm : GmFo.d3 m) (hn : GmFo.d3 n) {a b : List (List Int)} (ha : Tab m n a) (hb : Tab m n b) (h0 : (a.getD 0 []).length = n) (q : Int) (hq : q = 1 ∨ q = 2) : ∃ D l M V lab, Side a b q D l M V lab := by
 rcases hq with rfl | rfl
 ·refine ⟨m, listA m (M1 n b), M1 n b, V1 m n b, lab1 m n b, lenV1 hm hn ha hb h0, fun p hp => bdV1 hm hn ha hb h0 hp, hm, fun p => ?_, evFigure1 hm hn ha hb h0, evCor1 hm hn ha hb h0, fun p hp => evLab1 hm hn ha hb h0 hp _, evFigS1 hm hn hb, evCornersA hm hn (sums1 hb), fun p hp => evLabS1' hm hn ha hb h0 hp⟩
  exact Nat.le_trans (labI_len _ _ p) (by rcases hm with h | h | h <;> rcases hn with h' | h' | h' <;> omega)
 ·refine ⟨n, listB n (M2 a), M2 a, V2 m n a, lab2 m n a, lenV2 hm hn ha hb h0, fun p hp => bdV2 hm hn ha hb h0 hp, hn, fun p => ?_, evFigure2 hm hn ha hb h0, evCor2 hm hn ha hb h0, fun p hp => evLab2 hm hn ha hb h0 hp _, evFigS2 hm hn ha, evCornersA hn hm (sums2 ha), fun p hp => evLabS2' hm hn ha hb h0 hp⟩
  exact Nat.le_trans (labI_len _ _ p) (by rcases hm with h | h | h <;> rcases hn with h' | h' | h' <;> omega)
theorem player_i (q : Int) : impl_isPlayer.f q = some (decide (q = 1) || decide (q = 2)) := by
 unfold impl_isPlayer.f
 by_cases h : q = 1
 ·rw [if_pos h, decide_eq_true h]; rfl
 ·rw [if_neg h, decide_eq_false h, Bool.false_or]
  by_cases h2 : q = 2
  ·simp [h2]
  ·simp [h2]
theorem player_s (q : Int) : spec_gmPlayer.f q = some (decide (q = 1) || decide (q = 2)) := by
 unfold spec_gmPlayer.f
 rw [l1In_is, Option.bind_some]
 congr 1
 unfold inB
 by_cases h : q = 1
 ·subst h; decide
 ·by_cases h2 : q = 2
  ·subst h2; decide
  ·rw [decide_eq_false h, decide_eq_false h2]
   by_cases h3 : 1 ≤ q
   ·have : ¬ q ≤ 2 := by omega
    simp [this]
   ·simp [h3]
theorem ev_two {α : Type} {f g : Nat → Option α} {r : α} (h1 : Ev f r) (h2 : Ev g r) : ∃ K, ∀ k, K ≤ k → f k = some r ∧ g k = some r := by
 obtain ⟨K1, e1⟩ := h1
 obtain ⟨K2, e2⟩ := h2
 exact ⟨K1 + K2, fun k hk => ⟨e1 k (by omega), e2 k (by omega)⟩⟩
theorem good_ev (a b : List (List Int)) (ha : Eqs.Small a) (hb : Eqs.Small b) {g : Bool} (c : game a b = g) : Ev (fun k => spec_gmGood.f k a b) g := by
 rw [← c]
 exact ⟨2097201, fun k hk => spec_game a b ha hb k (by omega)⟩
theorem small_corners {D : Nat} (hD : D = 1 ∨ D = 2 ∨ D = 3) {V : List (List Int)} (hl : V.length ≤ 64) (hb : ∀ p ∈ V, p.length = D + 1 ∧ ∀ x ∈ p, x.natAbs ≤ 185193) : Eqs.Small V := by
 refine ⟨by omega, fun p hp => ?_⟩
 rw [(hb p hp).1]
 omega
theorem cornersOf_same (a b : List (List Int)) (q : Int) (ha : Eqs.Small a) (hb : Eqs.Small b) : ∃ r t, Eqs.Small r ∧ ∃ K, ∀ k, K ≤ k → spec_CornersOf.f k a b q = some (r, t) ∧ impl_CornersOf.f k a b q = some (r, t) := by
 cases c : game a b with
 | false =>
  refine ⟨[], false, ⟨by decide, by simp⟩, ev_two ?_ ?_⟩
  ·unfold spec_CornersOf.f
   exact Ev.bind (good_ev a b ha hb c) (Ev.step (f := fun _ => some ([], false)) (fun k => by simp [spec_CornersOf.j0]) (Ev.now _))
  ·unfold impl_CornersOf.f
   rw [impl_game, c]
   exact Ev.step (f := fun _ => some ([], false)) (fun k => by simp [impl_CornersOf.j0]) (Ev.now _)
 | true =>
  by_cases hq : q = 1 ∨ q = 2
  ·have hp : (decide (q = 1) || decide (q = 2)) = true := by rcases hq with h | h <;> simp [h]
   obtain ⟨m, n, hm, hn, ta, tb, h0⟩ := game_shape c
   obtain ⟨D, l, M, V, lab, s⟩ := side_of hm hn ta tb h0 q hq
   refine ⟨V, true, small_corners s.d3 s.len s.bd, ev_two ?_ ?_⟩
   ·unfold spec_CornersOf.f
    rw [player_s, hp]
    refine Ev.bind (good_ev a b ha hb c) (Ev.step (f := fun k => (spec_gmFigure.f k a b q).bind fun t293 => ((spec_gmCorners.f k t293).bind fun t296 => (some (t296, true)))) (fun k => by simp [spec_CornersOf.j0]) (Ev.bind s.sfig (Ev.bind s.scor (Ev.now _))))
   ·unfold impl_CornersOf.f
    rw [impl_game, c, player_i, hp]
    exact Ev.step (f := fun k => (impl_Game_figureOf.f k a b q).bind fun bt549 => ((impl_figure_corners.f k bt549.1 bt549.2).bind fun t553 => (some (t553, true)))) (fun k => by simp [impl_CornersOf.j0]) (Ev.bind s.fig (Ev.bind s.cor (Ev.now _)))
  ·have hp : (decide (q = 1) || decide (q = 2)) = false := by
    rw [decide_eq_false (fun h => hq (.inl h)), decide_eq_false (fun h => hq (.inr h))]; rfl
   refine ⟨[], false, ⟨by decide, by simp⟩, ev_two ?_ ?_⟩
   ·unfold spec_CornersOf.f
    rw [player_s, hp]
    exact Ev.bind (good_ev a b ha hb c) (Ev.step (f := fun _ => some ([], false)) (fun k => by simp [spec_CornersOf.j0]) (Ev.now _))
   ·unfold impl_CornersOf.f
    rw [impl_game, c, player_i, hp]
    exact Ev.step (f := fun _ => some ([], false)) (fun k => by simp [impl_CornersOf.j0]) (Ev.now _)
end Go.Proofs.Ytggiicplcglalaa.GmLab
end
section
namespace Go.Proofs.Ytggiicplcglalaa.RowsIn
open Go.RowKit Go.Proofs.Ytggiicplcglalaa.All Go.Proofs.YtggiicplcglalaaW.PrintWords Go.Proofs.YtggiicplcglalaaW.PrintLast
open Go.Deep
theorem c_int {w : World} {A : Option Addr} {n : Nat} {Z : List Int} (hz : n ≤ Z.length) (hn : n ≤ maxLen) (hnil : A = none → n = 0) (hc : ∀ a', A = some a' → ∀ c, c < n → w.cell? (a'.add c) = some (.int .i64 (Z.getD c 0))) : Kd.C (Kd.int .i64) w A n (Z.take n) := by
 refine ⟨by simp; omega, hn, fun h0 => ?_⟩
 cases A with
 | none => exact absurd (hnil rfl) (by omega)
 | some a =>
  refine ⟨a, rfl, fun j p hp => ⟨[.int .i64 p], rfl, rfl, fun i u hu => ?_⟩⟩
  have hj : j < n := by
   have := (List.getElem?_eq_some_iff.1 hp).1
   simp at this; omega
  have hi : i = 0 := by
   cases i with
   | zero => rfl
   | succ i => simp at hu
  subst hi
  have : p = Z.getD j 0 := by
   rw [List.getElem?_take_of_lt hj] at hp
   simp [List.getD, hp]
  subst this
  obtain rfl : Value.int .i64 (Z.getD j 0) = u := by simpa using hu
  have := hc a rfl j hj
  rwa [show (Kd.int .i64).sz = 1 from rfl, Nat.mul_one, Nat.add_zero]
def Lists (w : World) (A : Option Addr) (len cap : Nat) (ls : List (List Int)) : Prop :=
 len = ls.length ∧ Kd.C (Kd.slice 3 (Kd.int .i64)) w A ls.length ls ∧ ls.length ≤ cap ∧ ls.length ≤ maxLen ∧ (∀ l ∈ ls, l.length ≤ maxLen) ∧ ∀ l ∈ ls, ∀ x ∈ l, (Lit.int .i64 x).wf = true
theorem lists_open {H : Type} {enc : TypeId × Value → H} {w : World} {base : Nat} {fuel : Nat} {cs : List Value} {x : DataW H × List MemPlace}
  (h : DataW.trod enc Try.prog w base (fun _ => true) true fuel 22 cs = some x) : ∃ (a : Option Addr) (len cap : Nat) (ls : List (List Int)), cs = [.slice a len cap] ∧ Lists w a len cap ls := by
 rcases open_int_rows Try.underlying22 Try.underlying38 Try.underlying3 (by kernel_rfl) (by kernel_rfl) h with ⟨rfl, _⟩ | ⟨a, len, cap, A, L, C, Z, rfl, _, hl, hm, _, hr⟩
 ·exact ⟨none, 0, 0, [], rfl, rfl, ⟨rfl, by simp, fun h => absurd h (by simp)⟩, by simp, by simp, by simp, by simp⟩
 ·have hlen : ((List.range len).map fun r => (Z r).take (L r)).length = len := by simp
  refine ⟨some a, len, cap, (List.range len).map fun r => (Z r).take (L r), rfl, hlen.symm, ?_, by rw [hlen]; exact hl, by rw [hlen]; omega, ?_, ?_⟩
  ·rw [hlen]
   refine ⟨hlen, by unfold maxLen at hm; omega, fun _ => ⟨a, rfl, fun j p hp => ?_⟩⟩
   have hj : j < len := by
    have := (List.getElem?_eq_some_iff.1 hp).1
    simpa using this
   obtain rfl : (Z j).take (L j) = p := by simpa [List.getElem?_map, List.getElem?_range hj] using hp
   obtain ⟨hcell, h1, h2, h3, _, h5, h6⟩ := hr j (by omega)
   have hlj : ((Z j).take (L j)).length = L j := by simp; omega
   refine ⟨[.slice (A j) (L j) (C j)], rfl, ⟨A j, C j, by rw [hlj], by rw [hlj]; exact h1, ?_⟩, fun i u hu => ?_⟩
   ·rw [hlj]
    exact c_int (by omega) (by omega) (fun e => by have := h5 e; omega) (fun a' e c hc => (h6 a' e).2 c (by omega))
   ·have hi : i = 0 := by
     cases i with
     | zero => rfl
     | succ i => simp at hu
    subst hi
    obtain rfl : Value.slice (A j) (L j) (C j) = u := by simpa using hu
    rwa [show (Kd.slice 3 (Kd.int .i64)).sz = 1 from rfl, Nat.mul_one, Nat.add_zero]
  ·intro l hl'
   obtain ⟨r, hr', rfl⟩ := List.mem_map.1 hl'
   obtain ⟨_, h1, h2, h3, _⟩ := hr r (by have := List.mem_range.1 hr'; omega)
   simp; omega
  ·intro l hl' n hn
   obtain ⟨r, hr', rfl⟩ := List.mem_map.1 hl'
   obtain ⟨_, _, _, _, h4, _⟩ := hr r (by have := List.mem_range.1 hr'; omega)
   exact h4 n (List.mem_of_mem_take hn)
theorem pair_open {H : Type} {enc : TypeId × Value → H} {w : World} {base : Nat} {t : TypeId} {f0 f1 : Field} {cs : Array Value} {d : DataW H} {ps : List MemPlace} (ht : Try.prog.underlying t = some (.struct #[f0, f1])) (e0 : f0.type = 22) (e1 : f1.type = 22) (o0 : f0.offset = 0) (o1 : f1.offset = 1) (hc : Try.prog.cellsOf t = 2) (hs : Try.prog.cellsOf 22 = 1)
  (h : DataW.Trod enc Try.prog w base (fun _ => true) true t (.agg cs) d ps) : ∃ (a : Option Addr) (len cap : Nat) (ls : List (List Int)) (b : Option Addr) (lenb capb : Nat) (ms : List (List Int)), cs = #[.slice a len cap, .slice b lenb capb] ∧ Lists w a len cap ls ∧ Lists w b lenb capb ms := by
 obtain ⟨fuel, hf⟩ := h
 obtain ⟨y0, y1, n, _, hl, h0, h1⟩ := Go.ChangeShapes.trod_struct2 ht hf
 rw [e0, o0, hs] at h0
 rw [e1, o1, hs] at h1
 obtain ⟨a, len, cap, ls, ea, L0⟩ := lists_open h0
 obtain ⟨b, lenb, capb, ms, eb, L1⟩ := lists_open h1
 refine ⟨a, len, cap, ls, b, lenb, capb, ms, ?_, L0, L1⟩
 rw [hc] at hl
 simp only [Value.cells] at hl ea eb
 apply Array.toList_inj.mp
 match hcs : cs.toList, hl with
 | [x, y], _ =>
  rw [hcs] at ea eb
  simp at ea eb
  subst ea eb
  rfl
end Go.Proofs.Ytggiicplcglalaa.RowsIn
end
section
namespace Go.Proofs.Ytggiicplcglalaa.Pure
open Go.RowKit Go.Proofs.Ytggiicplcglalaa.All Go.Proofs.Ytggiicplcglalaa.Eqs Go.Proofs.Ytggiicplcglalaa.GmLab Go.Proofs.Ytggiicplcglalaa.RowsIn Go.Proofs.YtggiicplcglalaaW.PrintWords Go.Proofs.YtggiicplcglalaaW.PrintLast
theorem FnExactCornersOf (A0 : Option Addr) (len0 cap0 : Nat) (l0 : List (List Int)) (B0 : Option Addr) (lenb0 capb0 : Nat) (m0 : List (List Int)) (a1 : Int) (w : World) (H0 : Lists w A0 len0 cap0 l0) (J0 : Lists w B0 lenb0 capb0 m0) (_ : (Lit.int .i64 a1).wf = true) :
  Calls Try.prog 3 #[.agg #[.slice A0 len0 cap0, .slice B0 lenb0 capb0], .int .i64 a1] w fun e w' => e = .returned (.bool true) ∧ Below w.heap.size w w' := by
 obtain ⟨rfl, hr0, hc0, hm0, hml0, _⟩ := H0
 obtain ⟨rfl, hrb0, hcb0, hmb0, hmlb0, _⟩ := J0
 obtain ⟨r, hsm, hr⟩ := szGame_is l0 m0 hm0 hmb0 hml0 hmlb0
 by_cases h0 : r < 0
 ·exact Walk.CornersOf.sz 4000000 A0 cap0 l0 B0 capb0 m0 a1 w hr0 hc0 hrb0 hcb0 r (hr _ (by omega)) h0 
 obtain ⟨hs0, hsb0⟩ := hsm (by omega)
 obtain ⟨o0, o1, ho0, K, hx⟩ := cornersOf_same l0 m0 a1 hs0 hsb0 
 exact Walk.CornersOf.main (K + 4000000) A0 cap0 l0 B0 capb0 m0 a1 w hr0 hc0 hrb0 hcb0 r (hr _ (by omega)) (by omega) (by omega) o0 o1 hs0 hsb0  ho0 (hx _ (by omega)).1 (hx _ (by omega)).2
end Go.Proofs.Ytggiicplcglalaa.Pure
end
