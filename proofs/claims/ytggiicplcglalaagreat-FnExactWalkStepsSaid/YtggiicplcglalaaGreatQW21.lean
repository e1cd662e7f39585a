/- Part of the proof that FnExactWalkSteps answers true. -/
import Derived.Test.YtggiicplcglalaaGreatQW20
section
namespace Go.Proofs.YtggiicplcglalaaGreat.GmLab
open Go.RowKit YtggiicplcglalaaGreat.All YtggiicplcglalaaGreatW.PrintWords YtggiicplcglalaaGreatW.PrintLast YtggiicplcglalaaGreat.Eqs YtggiicplcglalaaGreat.GmDet YtggiicplcglalaaGreat.GmRed YtggiicplcglalaaGreat.LH YtggiicplcglalaaGreat.GmDot YtggiicplcglalaaGreat.GmFig YtggiicplcglalaaGreat.GmPut YtggiicplcglalaaGreat.GmImp YtggiicplcglalaaGreat.GmFo YtggiicplcglalaaGreat.GmSpc
set_option linter.unusedVariables false
set_option linter.unusedSimpArgs false
set_option linter.unusedSectionVars false
theorem oU {L : List (List Int)} {i : Nat} (h : i < L.length) : aJ L (i : Int) = L[i] := by simp [aJ, List.getD, List.getElem?_eq_getElem h]
theorem ak' (b : List (List Int)) (j : Nat) (hj : ∀ r ∈ b, j < r.length) (hl : b.length ≤ 1000) (x3 : List (List Int)) (hx3 : x3.length ≤ 1000) (iM jd : Int) (v : List (List Int)) (f_ : Ev (fun k => aw.l0 k b (x3 ++ [ig b j]) iM (wrap64 (jd + 1))) v) (d : Nat) :
  ∀ i : Nat, i + d = b.length → Ev (fun k => aw.l1 k b x3 (j : Int) ((b.take i).map fun r => r.getD j 0) iM jd (b.length : Int) (i : Int)) v := by
 induction d with
 | zero =>
  intro i hi
  rw [List.take_of_length_le (by omega)]
  have hz : ¬ (i : Int) < (b.length : Int) := by omega
  have hx : x3.length < 5864062014805 := by omega
  refine Ev.step (fun k => ?_) f_
  simp only [aw.l1]
  rw [if_neg hz, if_pos hx]
  rfl
 | succ d ih =>
  intro i hi
  have h1 : i < b.length := by omega
  have hr := hj _ (List.getElem_mem h1)
  have kH : (i : Int) < (b.length : Int) := by omega
  have lu : (0 : Int) ≤ (i : Int) := by omega
  have E5 : (0 : Int) ≤ (j : Int) := by omega
  have hz4 : (j : Int) < ((b[i]).length : Int) := by omega
  have hz5 : ((b.take i).map fun r => r.getD j 0).length < 17592186044416 := by rw [List.length_map, List.length_take]; omega
  have ei := fC i (by omega)
  refine Ev.step (fun k => ?_) (ih (i + 1) (by omega))
  simp only [aw.l1]
  rw [if_pos kH, if_pos lu, if_pos kH, oU h1, if_pos E5, if_pos hz4, if_pos hz5, b9 hr, ei, List.take_succ_eq_append_getElem h1, List.map_append]
  simp only [List.map_cons, List.map_nil]
  rw [jx hr]
theorem SQ {m n : Nat} (hm : d3 m) (hn : d3 n) {b : List (List Int)} (hb : wN m n b) : Ev (fun k => aw.f k b) ((List.range n).map (ig b)) := by
 have GL : 1 ≤ m ∧ m ≤ 3 := by rcases hm with h | h | h <;> omega
 have yY : n ≤ 3 := by rcases hn with h | h | h <;> omega
 have hl := hb.1
 have h0 : 0 < b.length := by omega
 have Af : (0 : Int) < (b.length : Int) := by omega
 have gD : aJ b 0 = b[0] := oU h0
 have hrl := (hb.2 _ (List.getElem_mem h0)).1
 have main : ∀ (d : Nat), ∀ j : Nat, j + d = n → Ev (fun k => aw.l0 k b ((List.range j).map (ig b)) (n : Int) (j : Int)) ((List.range n).map (ig b)) := by
  intro d
  induction d with
  | zero =>
   intro j hj
   obtain rfl : j = n := by omega
   have hz : ¬ (j : Int) < (j : Int) := by omega
   refine Ev.step (fun k => ?_) (Ev.now _)
   simp only [aw.l0]
   rw [if_neg hz]
  | succ d ih =>
   intro j hj
   have hjn : j < n := by omega
   have hz : (j : Int) < (n : Int) := by omega
   have ej := fC j (by omega)
   have key := ih (j + 1) (by omega)
   rw [List.range_succ, List.map_append] at key
   have h3 := ak' b j (fun r hr => by rw [(hb.2 r hr).1]; exact hjn) (by omega) ((List.range j).map (ig b)) (by rw [List.length_map, List.length_range]; omega) (n : Int) (j : Int) _ (by rw [ej]; exact key) b.length 0 (Nat.zero_add _)
   refine Ev.step (fun k => ?_) h3
   simp only [aw.l0]
   rw [if_pos hz]
   rfl
 refine Ev.congr (fun k => ?_) (main n 0 (Nat.zero_add n))
 unfold aw.f
 rw [if_pos Af, gD, hrl]
 rfl
theorem ala (T : List (List Int)) (x6 : List (List Int)) (hx6 : x6.length ≤ 1000) (r : List Int) (hr : ∀ x ∈ r, -9 ≤ x ∧ x ≤ 9) (hl : r.length ≤ 1000) (xZ xb : Int) (v : List (List Int)) (f_ : Ev (fun k => aW.l0 k (x6 ++ [plus r]) T xZ (wrap64 (xb + 1))) v) (d : Nat) :
  ∀ i : Nat, i + d = r.length → Ev (fun k => aW.l1 k x6 ((r.take i).map (· + 10)) T xZ xb r (r.length : Int) (i : Int)) v := by
 induction d with
 | zero =>
  intro i hi
  rw [List.take_of_length_le (by omega)]
  have hz : ¬ (i : Int) < (r.length : Int) := by omega
  have hx : x6.length < 5864062014805 := by omega
  refine Ev.step (fun k => ?_) f_
  simp only [aW.l1]
  rw [if_neg hz, if_pos hx]
  rfl
 | succ d ih =>
  intro i hi
  have h1 : i < r.length := by omega
  have hb := hr _ (List.getElem_mem h1)
  have kH : (i : Int) < (r.length : Int) := by omega
  have lu : (0 : Int) ≤ (i : Int) := by omega
  have hz5 : ((r.take i).map (· + 10)).length < 17592186044416 := by rw [List.length_map, List.length_take]; omega
  have ei := fC i (by omega)
  have ew : wrap64 (r[i] + 10) = r[i] + 10 := dC (by omega) (by omega)
  refine Ev.step (fun k => ?_) (ih (i + 1) (by omega))
  simp only [aW.l1]
  rw [if_pos kH, if_pos lu, if_pos kH, if_pos hz5, b9 h1, ew, ei, List.take_succ_eq_append_getElem h1, List.map_append]
  rfl
theorem ZI (T : List (List Int)) (hT : ∀ r ∈ T, r.length ≤ 1000 ∧ ∀ x ∈ r, -9 ≤ x ∧ x ≤ 9) (hl : T.length ≤ 1000) : Ev (fun k => aW.j0 k T) (T.map plus) := by
 have main : ∀ (d : Nat), ∀ i : Nat, i + d = T.length → Ev (fun k => aW.l0 k ((T.take i).map plus) T (T.length : Int) (i : Int)) (T.map plus) := by
  intro d
  induction d with
  | zero =>
   intro i hi
   rw [List.take_of_length_le (by omega)]
   have hz : ¬ (i : Int) < (T.length : Int) := by omega
   refine Ev.step (fun k => ?_) (Ev.now _)
   simp only [aW.l0]
   rw [if_neg hz]
  | succ d ih =>
   intro i hi
   have h1 : i < T.length := by omega
   have kH : (i : Int) < (T.length : Int) := by omega
   have lu : (0 : Int) ≤ (i : Int) := by omega
   have ei := fC i (by omega)
   have key := ih (i + 1) (by omega)
   rw [List.take_succ_eq_append_getElem h1, List.map_append] at key
   obtain ⟨t1, t2⟩ := hT _ (List.getElem_mem h1)
   have h3 := ala T ((T.take i).map plus) (by rw [List.length_map, List.length_take]; omega) T[i] t2 t1 (T.length : Int) (i : Int) _ (by rw [ei]; exact key) (T[i]).length 0 (Nat.zero_add _)
   refine Ev.step (fun k => ?_) h3
   simp only [aW.l0]
   rw [if_pos kH, if_pos lu, if_pos kH, oU h1]
   rfl
 exact Ev.step (fun k => by simp only [aW.j0]; rfl) (main T.length 0 (Nat.zero_add _))
theorem Dj {m n : Nat} (hm : d3 m) (hn : d3 n) {a b : List (List Int)} (hb : wN m n b) : Ev (fun k => aW.f k a b 1) (M1 n b) := by
 have GL : m ≤ 3 := by rcases hm with h | h | h <;> omega
 have yY : n ≤ 3 := by rcases hn with h | h | h <;> omega
 have hl := hb.1
 have hj := ZI ((List.range n).map (ig b)) (fun r hr => by
  obtain ⟨j, hj, rfl⟩ := List.mem_map.1 hr
  have hj := List.mem_range.1 hj
  refine ⟨by simp [ig]; omega, fun x hx => ?_⟩
  obtain ⟨q, hq, rfl⟩ := List.mem_map.1 hx
  obtain ⟨q1, q2⟩ := hb.2 q hq
  rw [jx (by omega)]
  exact q2 _ (List.getElem_mem _)) (by rw [List.length_map, List.length_range]; omega)
 rw [List.map_map] at hj
 refine Ev.congr (fun k => ?_) (Ev.bind (SQ hm hn hb) hj)
 unfold aW.f
 rw [if_pos rfl]
theorem Dk {m n : Nat} (hm : d3 m) (hn : d3 n) {a b : List (List Int)} (ha : wN m n a) : Ev (fun k => aW.f k a b 2) (M2 a) := by
 have GL : m ≤ 3 := by rcases hm with h | h | h <;> omega
 have yY : n ≤ 3 := by rcases hn with h | h | h <;> omega
 have hl := ha.1
 refine Ev.congr (fun k => ?_) (ZI a (fun r hr => ⟨by rw [(ha.2 r hr).1]; omega, (ha.2 r hr).2⟩) (by omega))
 unfold aW.f
 rw [if_neg (by decide)]
def jV : List Int → Int → List Int
 | [], p => [p]
 | a :: L, p => if a < p then a :: jV L p else if a = p then a :: L else p :: a :: L
theorem AH (p q : Int) : ∀ L : List Int, q ∈ jV L p ↔ q = p ∨ q ∈ L
 | [] => by simp [jV]
 | a :: L => by
  unfold jV
  by_cases h : a < p
  ·rw [if_pos h, List.mem_cons, AH p q L, List.mem_cons]
   constructor
   ·rintro (h | h | h)
    ·exact .inr (.inl h)
    ·exact .inl h
    ·exact .inr (.inr h)
   ·rintro (h | h | h)
    ·exact .inr (.inl h)
    ·exact .inl h
    ·exact .inr (.inr h)
  ·rw [if_neg h]
   by_cases e : a = p
   ·rw [if_pos e]; subst e; simp
   ·rw [if_neg e]; simp
theorem xM (p : Int) : ∀ L : List Int, L.Pairwise (· < ·) → (jV L p).Pairwise (· < ·)
 | [], _ => by simp [jV]
 | a :: L, hs => by
  obtain ⟨h1, h2⟩ := List.pairwise_cons.mp hs
  unfold jV
  by_cases h : a < p
  ·rw [if_pos h]
   refine List.pairwise_cons.mpr ⟨fun b hb => ?_, xM p L h2⟩
   rcases (AH p b L).1 hb with rfl | hb
   ·exact h
   ·exact h1 b hb
  ·rw [if_neg h]
   by_cases e : a = p
   ·rw [if_pos e]; exact hs
   ·rw [if_neg e]
    refine List.pairwise_cons.mpr ⟨fun b hb => ?_, hs⟩
    rcases List.mem_cons.1 hb with rfl | hb
    ·omega
    ·have := h1 b hb; omega
theorem GP (p : Int) : ∀ L : List Int, (jV L p).length ≤ L.length + 1
 | [] => by simp [jV]
 | a :: L => by
  have := GP p L
  unfold jV
  split
  ·simp; omega
  ·split <;> simp
theorem JP : ∀ {L M : List Int}, L.Pairwise (· < ·) → M.Pairwise (· < ·) → (∀ p, p ∈ L ↔ p ∈ M) → L = M
 | [], [], _, _, _ => rfl
 | [], b :: M, _, _, h => by have := (h b).mpr (by simp); simp at this
 | a :: L, [], _, _, h => by have := (h a).mp (by simp); simp at this
 | a :: L, b :: M, hL, hM, h => by
  obtain ⟨a1, a2⟩ := List.pairwise_cons.mp hL
  obtain ⟨b1, b2⟩ := List.pairwise_cons.mp hM
  have e : a = b := by
   have x := (h a).mp (by simp)
   have y := (h b).mpr (by simp)
   rcases List.mem_cons.mp x with x | x
   ·exact x
   ·rcases List.mem_cons.mp y with y | y
    ·exact y.symm
    ·have := b1 a x; have := a1 b y; omega
  subst e
  rw [JP a2 b2 (fun p => ?_)]
  constructor
  ·intro hp
   rcases List.mem_cons.mp ((h p).mp (List.mem_cons_of_mem _ hp)) with e | e
   ·subst e; have := a1 p hp; omega
   ·exact e
  ·intro hp
   rcases List.mem_cons.mp ((h p).mpr (List.mem_cons_of_mem _ hp)) with e | e
   ·subst e; have := b1 p hp; omega
   ·exact e
theorem OV {a p : Int} (L : List Int) (h : a < p) : jV (a :: L) p = a :: jV L p := by
 simp only [jV]; rw [if_pos h]
theorem WY (L : List Int) (p : Int) (hl : L.length ≤ 1000) (d : Nat) : ∀ i : Nat, i + d = L.length → Ev (fun k => bq.l0 k L p (i : Int)) (L.take i ++ jV (L.drop i) p) := by
 induction d with
 | zero =>
  intro i hi
  have e1 : L.drop i = [] := List.drop_eq_nil_of_le (by omega)
  have e2 : L.take i = L := List.take_of_length_le (by omega)
  rw [e1, e2]
  refine Ev.step (fun k => ?_) (Ev.now _)
  simp only [bq.l0, Option.bind_some, List.nil_append, Int.toNat_natCast]
  rw [if_neg (by omega), if_pos (by omega), if_pos (by omega), e1, e2, if_pos (by simp; omega), if_pos (by omega), if_pos (by simp; omega), List.append_nil]
  rfl
 | succ d ih =>
  intro i hi
  have h1 : i < L.length := by omega
  have kH : (i : Int) < (L.length : Int) := by omega
  have lu : (0 : Int) ≤ (i : Int) := by omega
  have E5 : (i : Int) ≤ (L.length : Int) := by omega
  have ei := fC i (by omega)
  have key := ih (i + 1) (by omega)
  have hl1 : ([] : List Int).length + (L.take i).length < 17592186044416 := by simp; omega
  have Po : (L.take i).length < 17592186044416 := by simp; omega
  have hl3 : (L.take i ++ [p]).length + (L.drop i).length < 17592186044416 := by simp; omega
  have hd : L.drop i = L[i] :: L.drop (i + 1) := List.drop_eq_getElem_cons h1
  by_cases c : L[i] < p
  ·have e : L.take (i + 1) ++ jV (L.drop (i + 1)) p = L.take i ++ jV (L.drop i) p := by
    rw [hd, OV _ c, List.take_succ_eq_append_getElem h1, List.append_assoc]
    rfl
   rw [e] at key
   refine Ev.step (fun k => ?_) key
   simp only [bq.l0]
   rw [if_pos kH, if_pos lu, b9 h1, if_pos c, ei]
  ·by_cases e : L[i] = p
   ·have e2 : L.take i ++ jV (L.drop i) p = L := by
     rw [hd]
     unfold jV
     rw [if_neg c, if_pos e, ← hd, List.take_append_drop]
    rw [e2]
    refine Ev.step (fun k => ?_) (Ev.now _)
    simp only [bq.l0]
    rw [if_pos kH, if_pos lu, b9 h1, if_neg c, if_pos e]
   ·have e2 : jV (L.drop i) p = p :: L.drop i := by
     rw [hd]
     unfold jV
     rw [if_neg c, if_neg e]
    rw [e2]
    refine Ev.step (fun k => ?_) (Ev.now _)
    simp only [bq.l0, Option.bind_some, Int.toNat_natCast]
    rw [if_pos kH, if_pos lu, b9 h1, if_neg c, if_neg e, if_pos E5, if_pos hl1]
    simp only [List.nil_append]
    rw [if_pos Po, if_pos hl3, List.append_assoc]
    rfl
theorem SR (L : List Int) (p : Int) (hl : L.length ≤ 1000) : Ev (fun k => bq.f k L p) (jV L p) := WY L p hl L.length 0 (Nat.zero_add _)
theorem foldI (xs : List Int) : ∀ L : List Int, L.Pairwise (· < ·) → (xs.foldl jV L).Pairwise (· < ·) ∧ ∀ q, q ∈ xs.foldl jV L ↔ q ∈ L ∨ q ∈ xs := by
 induction xs with
 | nil => intro L hL; exact ⟨hL, fun q => by simp⟩
 | cons a xs ih =>
  intro L hL
  obtain ⟨h1, h2⟩ := ih (jV L a) (xM a L hL)
  refine ⟨h1, fun q => ?_⟩
  rw [List.foldl_cons, h2, AH, List.mem_cons]
  constructor
  ·rintro ((h | h) | h)
   ·exact .inr (.inl h)
   ·exact .inl h
   ·exact .inr (.inr h)
  ·rintro (h | h | h)
   ·exact .inl (.inr h)
   ·exact .inl (.inl h)
   ·exact .inr h
theorem OW (xs : List Int) : ∀ L : List Int, (xs.foldl jV L).length ≤ L.length + xs.length := by
 induction xs with
 | nil => intro L; simp
 | cons a xs ih =>
  intro L
  have h1 := ih (jV L a)
  have h2 := GP a L
  simp only [List.foldl_cons, List.length_cons]
  omega
theorem AI (xs : List Int) (h : xs.length ≤ 1000) : (xs.foldl jV []).length ≤ 1000 := by
 have := OW xs []
 simp only [List.length_nil] at this
 omega
def lc (F : Nat → H) (N : Nat) (p : List Int) : List Int := (jL F N (e6 p)).map Int.ofNat
theorem tU (F : Nat → H) (N : Nat) (p : List Int) : pR F (e6 p) N = lc F N p := rfl
theorem r_ (F : Nat → H) (N : Nat) (p : List Int) : (lc F N p).Pairwise (· < ·) := by
 unfold lc jL
 rw [List.pairwise_map]
 exact (List.Pairwise.filter _ List.pairwise_lt_range).imp fun {a b} h => by show (a : Int) < (b : Int); omega
theorem ra (F : Nat → H) (N : Nat) (p : List Int) (x : Int) : x ∈ lc F N p ↔ ∃ k : Nat, k < N ∧ ev (F k) (e6 p) = 0 ∧ x = (k : Int) := by
 unfold lc jL
 rw [List.mem_map]
 constructor
 ·rintro ⟨k, hk, rfl⟩
  obtain ⟨h1, h2⟩ := List.mem_filter.1 hk
  exact ⟨k, List.mem_range.1 h1, of_decide_eq_true h2, rfl⟩
 ·rintro ⟨k, h1, h2, rfl⟩
  exact ⟨k, List.mem_filter.2 ⟨List.mem_range.2 h1, decide_eq_true h2⟩, rfl⟩
theorem vC (F : Nat → H) (N : Nat) (p : List Int) : (lc F N p).length ≤ N := by
 have := wO F (e6 p) N
 rwa [tU] at this
def rb (n m : Nat) (x : Int) : Int := if x < n then x + m else x - n
theorem OX {n m : Nat} {M : List (List Int)} (hM : M.length = m) (p : List Int) : ((lc (FA n M) (n + m) p).map (rb n m)).foldl jV [] = lc (FB n M) (n + m) p := by
 obtain ⟨h1, h2⟩ := foldI ((lc (FA n M) (n + m) p).map (rb n m)) [] List.Pairwise.nil
 refine JP h1 (r_ _ _ _) fun x => ?_
 rw [h2, List.mem_map, ra]
 constructor
 ·rintro (h | ⟨y, hy, rfl⟩)
  ·simp at h
  ·obtain ⟨k, k1, k2, rfl⟩ := (ra _ _ _ _).1 hy
   obtain ⟨e1, e2⟩ := Rh n M (k := k) (by omega)
   rw [hM] at e1 e2
   refine ⟨n7 n m k, e1, by rw [← e2]; exact k2, ?_⟩
   unfold rb n7
   by_cases c : k < n
   ·rw [if_pos c, if_pos (by omega)]; omega
   ·rw [if_neg c, if_neg (by omega)]; omega
 ·rintro ⟨k, k1, k2, rfl⟩
  obtain ⟨j, j1, j2, j3⟩ := Yy n M (k := k) (by omega)
  rw [hM] at j1 j2
  refine .inr ⟨(j : Int), (ra _ _ _ _).2 ⟨j, j1, by rw [← j3]; exact k2, rfl⟩, ?_⟩
  rw [← j2]
  unfold rb n7
  by_cases c : j < n
  ·rw [if_pos c, if_pos (by omega)]; omega
  ·rw [if_neg c, if_neg (by omega)]; omega
theorem OY {n m : Nat} {M : List (List Int)} (p : List Int) : (lc (FA n M) (n + m) p).foldl jV [] = lc (FA n M) (n + m) p := by
 obtain ⟨h1, h2⟩ := foldI (lc (FA n M) (n + m) p) [] List.Pairwise.nil
 exact JP h1 (r_ _ _ _) fun x => by rw [h2]; simp
theorem arN (m n : Int) (L : List Int) (hl : L.length ≤ 100) (d : Nat) : ∀ i : Nat, i + d = L.length → Ev (fun k => a_.l0 k 1 m n ((L.take i).foldl jV []) L (L.length : Int) (i : Int)) (L.foldl jV []) := by
 induction d with
 | zero =>
  intro i hi
  rw [List.take_of_length_le (by omega)]
  have hz : ¬ (i : Int) < (L.length : Int) := by omega
  refine Ev.step (fun k => ?_) (Ev.now _)
  simp only [a_.l0]
  rw [if_neg hz]
 | succ d ih =>
  intro i hi
  have h1 : i < L.length := by omega
  have kH : (i : Int) < (L.length : Int) := by omega
  have lu : (0 : Int) ≤ (i : Int) := by omega
  have h12 : ¬ (1 : Int) = 2 := by decide
  have ei := fC i (by omega)
  have key := ih (i + 1) (by omega)
  rw [List.take_succ_eq_append_getElem h1, List.foldl_append] at key
  have SO := SR ((L.take i).foldl jV []) L[i] (AI _ (by rw [List.length_take]; omega))
  refine Ev.step (f := fun k => (bq.f k ((L.take i).foldl jV []) L[i]).bind fun aec => (a_.l0 k 1 m n aec L (L.length : Int) ((i + 1 : Nat) : Int))) (fun k => ?_) (Ev.bind SO key)
  simp only [a_.l0]
  rw [if_pos kH, if_pos lu, if_pos kH, if_neg h12, b9 h1, ei]
theorem GQ {m n : Nat} {x : Int} (hm : m ≤ 3) (hn : n ≤ 3) (h0 : 0 ≤ x) (h1 : x < (n : Int) + m) : wrap64 (x + (m : Int)) = x + (m : Int) ∧ wrap64 ((m : Int) + (n : Int)) = (m : Int) + (n : Int) ∧ (x < (n : Int) → ¬ x + (m : Int) ≥ (m : Int) + (n : Int)) ∧ (¬ x < (n : Int) → x + (m : Int) ≥ (m : Int) + (n : Int) ∧ wrap64 (x + (m : Int) - ((m : Int) + (n : Int))) = x - (n : Int)) := by
 refine ⟨dC (by omega) (by omega), dC (by omega) (by omega), fun h => by omega, fun h => ⟨by omega, ?_⟩⟩
 rw [dC (by omega) (by omega)]
 omega
theorem arO {m n : Nat} (hm : m ≤ 3) (hn : n ≤ 3) (L : List Int) (hL : ∀ x ∈ L, 0 ≤ x ∧ x < (n : Int) + m) (hl : L.length ≤ 100) (d : Nat) : ∀ i : Nat, i + d = L.length → Ev (fun k => a_.l0 k 2 (m : Int) (n : Int) (((L.take i).map (rb n m)).foldl jV []) L (L.length : Int) (i : Int)) ((L.map (rb n m)).foldl jV []) := by
 induction d with
 | zero =>
  intro i hi
  rw [List.take_of_length_le (by omega)]
  have hz : ¬ (i : Int) < (L.length : Int) := by omega
  refine Ev.step (fun k => ?_) (Ev.now _)
  simp only [a_.l0]
  rw [if_neg hz]
 | succ d ih =>
  intro i hi
  have h1 : i < L.length := by omega
  have kH : (i : Int) < (L.length : Int) := by omega
  have lu : (0 : Int) ≤ (i : Int) := by omega
  have ei := fC i (by omega)
  have key := ih (i + 1) (by omega)
  rw [List.take_succ_eq_append_getElem h1, List.map_append, List.foldl_append] at key
  have SO := SR (((L.take i).map (rb n m)).foldl jV []) (rb n m L[i]) (AI _ (by rw [List.length_map, List.length_take]; omega))
  obtain ⟨x0, x1⟩ := hL _ (List.getElem_mem h1)
  obtain ⟨w1, w2, w3, w4⟩ := GQ hm hn x0 x1
  refine Ev.step (f := fun k => (bq.f k (((L.take i).map (rb n m)).foldl jV []) (rb n m L[i])).bind fun aec => (a_.l0 k 2 (m : Int) (n : Int) aec L (L.length : Int) ((i + 1 : Nat) : Int))) (fun k => ?_) (Ev.bind SO key)
  simp only [a_.l0]
  rw [if_pos kH, if_pos lu, if_pos kH, if_pos trivial, b9 h1, ei, w1, w2]
  unfold rb
  by_cases c : L[i] < (n : Int)
  ·rw [if_neg (w3 c), if_pos c]
  ·rw [if_pos (w4 c).1, if_neg c, (w4 c).2]
section
variable {m n : Nat} (hm : d3 m) (hn : d3 n) {a b : List (List Int)} (ha : wN m n a) (hb : wN m n b) (h0 : (a.getD 0 []).length = n)
include hm hn ha hb h0
def V1 (m n : Nat) (b : List (List Int)) : List (List Int) := pT m n (M1 n b)
def V2 (m n : Nat) (a : List (List Int)) : List (List Int) := pT n m (M2 a)
def vD (m n : Nat) (b : List (List Int)) (p : List Int) : List Int := lc (FA m (M1 n b)) (m + n) p
def xr (m n : Nat) (a : List (List Int)) (p : List Int) : List Int := lc (FB n (M2 a)) (n + m) p
theorem WZ {p : List Int} (hp : eX (FA m (M1 n b)) (m + n) m p) (hy : ∀ x ∈ p, x.natAbs ≤ 1000000000) : Ev (fun k => a_.f k a b 1 p) (vD m n b p) := by
 have hs := j7 hb
 have hm1 : 0 < m := by rcases hm with h | h | h <;> omega
 have GL : m ≤ 3 := by rcases hm with h | h | h <;> omega
 have yY : n ≤ 3 := by rcases hn with h | h | h <;> omega
 have lS : vA (FA m (M1 n b)) (m + n) (e6 p) = true := (r9 _ _ _).2 hp.2.2.2.1
 have JO := SL hm hn hs hp.1 hy
 rw [if_pos lS, tU] at JO
 have hll := vC (FA m (M1 n b)) (m + n) p
 have hla := arN (m : Int) (n : Int) (lc (FA m (M1 n b)) (m + n) p) (by omega) (lc (FA m (M1 n b)) (m + n) p).length 0 (Nat.zero_add _)
 rw [OY] at hla
 have hz : (0 : Int) < (m : Int) := by omega
 have er : aJ a 0 = a.getD 0 [] := rfl
 refine Ev.congr (f := fun k => (aW.f k a b 1).bind fun aed => ((aa.f k aed p).bind fun GR => (a_.l0 k 1 (m : Int) (n : Int) ([] : List Int) GR.1 (GR.1.length : Int) 0))) (fun k => ?_) (Ev.bind (Dj hm hn hb) (Ev.bind JO hla))
 unfold a_.f
 simp only [er, h0, ha.1, if_pos hz]
theorem W0 {p : List Int} (hp : eX (FA n (M2 a)) (n + m) n p) (hy : ∀ x ∈ p, x.natAbs ≤ 1000000000) : Ev (fun k => a_.f k a b 2 p) (xr m n a p) := by
 have hs := ir ha
 have hm1 : 0 < m := by rcases hm with h | h | h <;> omega
 have GL : m ≤ 3 := by rcases hm with h | h | h <;> omega
 have yY : n ≤ 3 := by rcases hn with h | h | h <;> omega
 have lS : vA (FA n (M2 a)) (n + m) (e6 p) = true := (r9 _ _ _).2 hp.2.2.2.1
 have JO := SL hn hm hs hp.1 hy
 rw [if_pos lS, tU] at JO
 have hll := vC (FA n (M2 a)) (n + m) p
 have hla := arO GL yY (lc (FA n (M2 a)) (n + m) p) (fun x hx => by
  obtain ⟨k, k1, _, rfl⟩ := (ra _ _ _ _).1 hx
  omega) (by omega) (lc (FA n (M2 a)) (n + m) p).length 0 (Nat.zero_add _)
 rw [OX hs.1] at hla
 have hz : (0 : Int) < (m : Int) := by omega
 have er : aJ a 0 = a.getD 0 [] := rfl
 refine Ev.congr (f := fun k => (aW.f k a b 2).bind fun aed => ((aa.f k aed p).bind fun GR => (a_.l0 k 2 (m : Int) (n : Int) ([] : List Int) GR.1 (GR.1.length : Int) 0))) (fun k => ?_) (Ev.bind (Dk hm hn ha) (Ev.bind JO hla))
 unfold a_.f
 simp only [er, h0, ha.1, if_pos hz]
theorem GS : iV (qx (ji m (M1 n b)) m) = V1 m n b := by
 have hc := Dc hm hn (j7 hb)
 refine tR (r7 hc) (kR hm hn (j7 hb)) fun p => ?_
 rw [xG hc, MC hm, (j7 hb).1]
 exact (mz hm hn (j7 hb) p).symm
theorem GU : iV (qx (jj n (M2 a)) n) = V2 m n a := by
 have hc := Dd hn hm (ir ha)
 refine tR (r7 hc) (kR hn hm (ir ha)) fun p => ?_
 rw [xG hc, MD hn, (ir ha).1]
 exact (mz hn hm (ir ha) p).symm
theorem GV (p : List Int) : p ∈ V1 m n b ↔ eX (FA m (M1 n b)) (m + n) m p := mz hm hn (j7 hb) p
theorem GW (p : List Int) : p ∈ V2 m n a ↔ eX (FA n (M2 a)) (n + m) n p := mz hn hm (ir ha) p
theorem W4 {p : List Int} (hp : p ∈ V1 m n b) : p.length = m + 1 ∧ ∀ x ∈ p, x.natAbs ≤ 185193 := by
 rw [← GS hm hn ha hb h0, jw] at hp
 exact Fx (Dc hm hn (j7 hb)) hp
theorem W5 {p : List Int} (hp : p ∈ V2 m n a) : p.length = n + 1 ∧ ∀ x ∈ p, x.natAbs ≤ 185193 := by
 rw [← GU hm hn ha hb h0, jw] at hp
 exact Fx (Dd hn hm (ir ha)) hp
theorem SS : Ev (fun k => aM.f k (m : Int) (ji m (M1 n b))) (V1 m n b) := by
 have hc := Dc hm hn (j7 hb)
 have fv : qx (ji m (M1 n b)) m ≠ [] := by
  have := (nF hc (origin m)).2 ((MC hm _ _).2 (kN hm _ (fun r hr => ((j7 hb).2 r hr).1)))
  exact fun e => by rw [e] at this; simp at this
 rw [← GS hm hn ha hb h0]
 exact Bv hc (WQ hm _) fv
theorem SU : Ev (fun k => aM.f k (n : Int) (jj n (M2 a))) (V2 m n a) := by
 have hc := Dd hn hm (ir ha)
 have fv : qx (jj n (M2 a)) n ≠ [] := by
  have := (nF hc (origin n)).2 ((MD hn _ _).2 (kN hn _ (fun r hr => ((ir ha).2 r hr).1)))
  exact fun e => by rw [e] at this; simp at this
 rw [← GU hm hn ha hb h0]
 exact Bv hc (WR hn _) fv
theorem SV {p : List Int} (hp : p ∈ V1 m n b) (a0 : Int) : Ev (fun k => aV.f k a0 (ji m (M1 n b)) p) (vD m n b p) := by
 obtain ⟨p1, p2⟩ := W4 hm hn ha hb h0 hp
 have := GB (Dc hm hn (j7 hb)) p p1 (fun x hx => Nat.le_trans (p2 x hx) (by decide)) a0
 rw [akQ, (j7 hb).1] at this
 exact this
theorem SX {p : List Int} (hp : p ∈ V2 m n a) (a0 : Int) : Ev (fun k => aV.f k a0 (jj n (M2 a)) p) (xr m n a p) := by
 obtain ⟨p1, p2⟩ := W5 hm hn ha hb h0 hp
 have := GB (Dd hn hm (ir ha)) p p1 (fun x hx => Nat.le_trans (p2 x hx) (by decide)) a0
 rw [akR, (ir ha).1] at this
 exact this
theorem GX {p : List Int} (hp : p ∈ V1 m n b) : Ev (fun k => a_.f k a b 1 p) (vD m n b p) :=
 WZ hm hn ha hb h0 ((GV hm hn ha hb h0 p).1 hp) (fun x hx => Nat.le_trans ((W4 hm hn ha hb h0 hp).2 x hx) (by decide))
theorem GY {p : List Int} (hp : p ∈ V2 m n a) : Ev (fun k => a_.f k a b 2 p) (xr m n a p) :=
 W0 hm hn ha hb h0 ((GW hm hn ha hb h0 p).1 hp) (fun x hx => Nat.le_trans ((W5 hm hn ha hb h0 hp).2 x hx) (by decide))
end
end Go.Proofs.YtggiicplcglalaaGreat.GmLab
end
section
namespace Go.Proofs.YtggiicplcglalaaGreat.GmLab
open Go.RowKit YtggiicplcglalaaGreat.All YtggiicplcglalaaGreatW.PrintWords YtggiicplcglalaaGreatW.PrintLast YtggiicplcglalaaGreat.Eqs YtggiicplcglalaaGreat.GmDet YtggiicplcglalaaGreat.LH YtggiicplcglalaaGreat.GmFig YtggiicplcglalaaGreat.GmPut YtggiicplcglalaaGreat.GmImp YtggiicplcglalaaGreat.GmFo YtggiicplcglalaaGreat.GmSpc YtggiicplcglalaaGreat.Games
set_option linter.unusedVariables false
set_option linter.unusedSimpArgs false
set_option linter.unusedSectionVars false
def Dl (m n : Nat) (b : List (List Int)) : Bool := (V1 m n b).all fun p => decide ((vD m n b p).length ≤ m)
def BM (m n : Nat) (a : List (List Int)) : Bool := (V2 m n a).all fun p => decide ((xr m n a p).length ≤ n)
theorem MI {β : Type} (F : β → List Int) (n : Nat) : ∀ L : List β, (!(L.any fun p => decide ((n : Int) < ((F p).length : Int)))) = L.all fun p => decide ((F p).length ≤ n)
 | [] => rfl
 | a :: L => by
  have ih := MI F n L
  rw [List.any_cons, List.all_cons, Bool.not_or, ih]
  congr 1
  by_cases c : (F a).length ≤ n
  ·rw [decide_eq_true c, decide_eq_false (by omega)]; rfl
  ·rw [decide_eq_false c, decide_eq_true (by omega)]; rfl
theorem CE {β : Type} (z : β) (P : β → Bool) (L : List β) : ((List.range' 0 L.length).any fun j => P (L.getD j z)) = L.any P := by
 have : ∀ d i, i + d = L.length → ((List.range' i d).any fun j => P (L.getD j z)) = (L.drop i).any P := by
  intro d
  induction d with
  | zero => intro i hi; rw [List.drop_eq_nil_of_le (by omega)]; rfl
  | succ d ih =>
   intro i hi
   have h1 : i < L.length := by omega
   rw [List.range'_succ, List.any_cons, ih (i + 1) (by omega), List.drop_eq_getElem_cons h1, List.any_cons]
   congr 2
   simp [List.getD, List.getElem?_eq_getElem h1]
 have := this L.length 0 (Nat.zero_add _)
 rwa [List.drop_zero] at this
theorem SY (n : Nat) (l : List bm) (V : List (List Int)) (dg : List Int → List Int) (hV : Ev (fun k => aM.f k (n : Int) l) V) (hl : ∀ p ∈ V, Ev (fun k => aV.f k (n : Int) l p) (dg p)) : Ev (fun k => bY.f k (n : Int) l) (V.all fun p => decide ((dg p).length ≤ n)) := by
 obtain ⟨K1, h1⟩ := hV
 obtain ⟨K2, h2⟩ := D6 (fun p k => aV.f k (n : Int) l p) dg V hl
 refine ⟨K1 + K2, fun k hk => ?_⟩
 have h2' := h2 k (by omega)
 have hm : ∀ j, j < V.length → px k (n : Int) l V j = some (dg (V.getD j [])) := fun j hj => h2' _ (by
  rw [List.getD_eq_getElem?_getD, List.getElem?_eq_getElem hj]
  exact List.getElem_mem _)
 show bY.f k (n : Int) l = _
 unfold bY.f
 have e1 : aM.f k (n : Int) l = some V := h1 k (by omega)
 rw [e1, Option.bind_some, if_pos (List.all_eq_true.mpr fun j hj => by
  have tg : j < V.length := by have := List.mem_range'_1.1 hj; omega
  rw [hm j tg]; rfl)]
 congr 1
 rw [any_congr (q := fun j => decide ((n : Int) < ((dg (V.getD j [])).length : Int))) (fun j hj => by
  have tg : j < V.length := by have := List.mem_range'_1.1 hj; omega
  rw [hm j tg, Option.getD_some]), CE [] (fun p => decide ((n : Int) < ((dg p).length : Int))) V, MI]
section
variable {m n : Nat} (hm : d3 m) (hn : d3 n) {a b : List (List Int)} (ha : wN m n a) (hb : wN m n b) (h0 : (a.getD 0 []).length = n)
include hm hn ha hb h0
theorem SZ : Ev (fun k => cU.f k a b) (Dl m n b && BM m n a) := by
 have h1 := SY m (ji m (M1 n b)) (V1 m n b) (vD m n b) (SS hm hn ha hb h0) (fun p hp => SV hm hn ha hb h0 hp _)
 have h2 := SY n (jj n (M2 a)) (V2 m n a) (xr m n a) (SU hm hn ha hb h0) (fun p hp => SX hm hn ha hb h0 hp _)
 unfold cU.f
 refine Ev.bind (CC hm hn ha hb h0) (Ev.bind h1 ?_)
 cases c : Dl m n b with
 | false =>
  have c' : ((V1 m n b).all fun p => decide ((vD m n b p).length ≤ m)) = false := c
  rw [c']
  exact Ev.now _
 | true =>
  have c' : ((V1 m n b).all fun p => decide ((vD m n b p).length ≤ m)) = true := c
  rw [c']
  simp only [if_true, Bool.true_and]
  exact Ev.bind (CD hm hn ha hb h0) (Ev.bind h2 (Ev.now _))
theorem ZJ (x3 : Int) (V : List (List Int)) (dg : List Int → List Int) (N : Nat) (hl : ∀ p ∈ V, p.length = N + 1 ∧ Ev (fun k => a_.f k a b x3 p) (dg p)) (hN : N ≤ 3) (hV : V.length ≤ 1000000) (R : Bool)
  (f_ : Ev (fun k => ab.l0 k (wrap64 (x3 + 1)) a b) R) (d : Nat) : ∀ i : Nat, i + d = V.length → Ev (fun k => ab.l1 k x3 V (V.length : Int) (i : Int) a b) (((V.drop i).all fun p => decide ((dg p).length ≤ N)) && R) := by
 induction d with
 | zero =>
  intro i hi
  rw [List.drop_eq_nil_of_le (by omega), List.all_nil, Bool.true_and]
  have hz : ¬ (i : Int) < (V.length : Int) := by omega
  refine Ev.step (fun k => ?_) f_
  simp only [ab.l1]
  rw [if_neg hz]
 | succ d ih =>
  intro i hi
  have h1 : i < V.length := by omega
  have kH : (i : Int) < (V.length : Int) := by omega
  have lu : (0 : Int) ≤ (i : Int) := by omega
  have ei := fC i (by omega)
  have key := ih (i + 1) (by omega)
  obtain ⟨l1, l2⟩ := hl _ (List.getElem_mem h1)
  have ew : wrap64 (((V[i]).length : Int) - 1) = (N : Int) := by
   rw [l1, show ((N + 1 : Nat) : Int) - 1 = (N : Int) by omega]
   exact AF (by omega)
  rw [List.drop_eq_getElem_cons h1, List.all_cons]
  refine Ev.step (f := fun k => (a_.f k a b x3 V[i]).bind fun arP => (if (arP.length : Int) > (N : Int) then (some false) else (ab.l1 k x3 V (V.length : Int) ((i + 1 : Nat) : Int) a b))) (fun k => ?_) (Ev.bind l2 ?_)
  ·simp only [ab.l1]
   rw [if_pos kH, if_pos lu, if_pos kH, oU h1, ew, ei]
  ·by_cases c : (dg V[i]).length ≤ N
   ·have c' : ¬ ((dg V[i]).length : Int) > (N : Int) := by omega
    rw [decide_eq_true c, Bool.true_and]
    simp only [if_neg c']
    exact key
   ·have c' : ((dg V[i]).length : Int) > (N : Int) := by omega
    rw [decide_eq_false c, Bool.false_and, Bool.false_and]
    simp only [if_pos c']
    exact Ev.now _
theorem alb : (V1 m n b).length ≤ 64 := by
 have := (sO hm hn (j7 hb) (2 ^ (m + n))).2.1
 have h64 : 2 ^ (m + n) ≤ 2 ^ 6 := Nat.pow_le_pow_right (by decide) (by rcases hm with h | h | h <;> rcases hn with h' | h' | h' <;> omega)
 exact Nat.le_trans this h64
theorem alc : (V2 m n a).length ≤ 64 := by
 have := (sO hn hm (ir ha) (2 ^ (n + m))).2.1
 have h64 : 2 ^ (n + m) ≤ 2 ^ 6 := Nat.pow_le_pow_right (by decide) (by rcases hm with h | h | h <;> rcases hn with h' | h' | h' <;> omega)
 exact Nat.le_trans this h64
theorem S0 : Ev (fun k => ab.f k a b) (Dl m n b && BM m n a) := by
 have GL : m ≤ 3 := by rcases hm with h | h | h <;> omega
 have yY : n ≤ 3 := by rcases hn with h | h | h <;> omega
 have v1 := alb hm hn ha hb h0
 have v2 := alc hm hn ha hb h0
 have w2 : wrap64 (1 + 1) = (2 : Int) := AF (i := 2) (by omega)
 have w3 : wrap64 (2 + 1) = (3 : Int) := AF (i := 3) (by omega)
 have e3 : Ev (fun k => ab.l0 k 3 a b) true := Ev.step (f := fun _ => some true) (fun k => by simp only [ab.l0]; rw [if_neg (by decide)]) (Ev.now _)
 have h2 := ZJ hm hn ha hb h0 2 (V2 m n a) (xr m n a) n (fun p hp => ⟨(W5 hm hn ha hb h0 hp).1, GY hm hn ha hb h0 hp⟩) yY (by omega) true (by rw [w3]; exact e3) (V2 m n a).length 0 (Nat.zero_add _)
 rw [List.drop_zero, Bool.and_true] at h2
 have e2 : Ev (fun k => ab.l0 k 2 a b) (BM m n a) := by
  refine Ev.step (f := fun k => (aW.f k a b 2).bind fun aee => ((aE.f k aee).bind fun S1 => (ab.l1 k 2 S1 (S1.length : Int) 0 a b))) (fun k => by simp only [ab.l0]; rw [if_pos (by decide)]) (Ev.bind (Dk hm hn ha) (Ev.bind (qh hn hm (ir ha)) h2))
 have h1 := ZJ hm hn ha hb h0 1 (V1 m n b) (vD m n b) m (fun p hp => ⟨(W4 hm hn ha hb h0 hp).1, GX hm hn ha hb h0 hp⟩) GL (by omega) (BM m n a) (by rw [w2]; exact e2) (V1 m n b).length 0 (Nat.zero_add _)
 rw [List.drop_zero] at h1
 unfold ab.f
 exact Ev.step (f := fun k => (aW.f k a b 1).bind fun aee => ((aE.f k aee).bind fun S1 => (ab.l1 k 1 S1 (S1.length : Int) 0 a b))) (fun k => by simp only [ab.l0]; rw [if_pos (by decide)]) (Ev.bind (Dj hm hn hb) (Ev.bind (qh hm hn (j7 hb)) h1))
end
end Go.Proofs.YtggiicplcglalaaGreat.GmLab
end
section
namespace Go.Proofs.YtggiicplcglalaaGreat.LH
set_option linter.unusedSectionVars false
set_option autoImplicit true
set_option linter.unusedVariables false
set_option linter.unusedSimpArgs false
theorem aef {τ : Type} [DecidableEq τ] (f : Nat → τ) : ∀ (n : Nat) (L : List τ), L.length < n → (∀ i, i < n → f i ∈ L) → ∃ i j, i < j ∧ j < n ∧ f i = f j := by
 intro n
 induction n with
 | zero => intro L h; omega
 | succ n ih =>
  intro L hL hm
  by_cases c : ∃ i, i < n ∧ f i = f n
  ·obtain ⟨i, hi, e⟩ := c
   exact ⟨i, n, hi, by omega, e⟩
  ·have hy := hm n (by omega)
   have hlen : (L.erase (f n)).length = L.length - 1 := List.length_erase_of_mem hy
   have xm : 0 < L.length := List.length_pos_of_mem hy
   obtain ⟨i, j, h1, h2, h3⟩ := ih (L.erase (f n)) (by omega) (fun i hi => by
    refine (List.mem_erase_of_ne ?_).mpr (hm i (by omega))
    intro e
    exact c ⟨i, hi, e⟩)
   exact ⟨i, j, h1, by omega, h3⟩
theorem Dm {α β : Type} (V : List α) (W : List β) : (V.flatMap fun a => W.flatMap fun b => [(a, b, true), (a, b, false)]).length = 2 * (V.length * W.length) := by
 have h1 : ∀ (a : α) (W : List β), (W.flatMap fun b => [(a, b, true), (a, b, false)]).length = 2 * W.length := by
  intro a W
  induction W with
  | nil => rfl
  | cons b W ih => simp only [List.flatMap_cons, List.length_append, List.length_cons, List.length_nil]; rw [ih]; omega
 induction V with
 | nil => simp
 | cons a V ih => simp only [List.flatMap_cons, List.length_append, List.length_cons]; rw [ih, h1, Nat.add_mul]; omega
theorem least {P : Nat → Prop} : ∀ n, P n → ∃ m, m ≤ n ∧ P m ∧ ∀ k, k < m → ¬ P k := by
 intro n
 induction n using Nat.strongRecOn with
 | ind n ih =>
  intro h
  by_cases c : ∃ k, k < n ∧ P k
  ·obtain ⟨k, hk, hp⟩ := c
   obtain ⟨m, h1, h2, h3⟩ := ih k hk hp
   exact ⟨m, by omega, h2, h3⟩
  ·exact ⟨n, Nat.le_refl _, h, fun k hk hp => c ⟨k, hk, hp⟩⟩
section
variable {α β : Type} [DecidableEq α] [DecidableEq β]
def step (al : α → Nat → α × Nat) (am : β → Nat → β × Nat) (s : α × β × Nat × Bool) : α × β × Nat × Bool :=
 if s.2.2.2 = true then (s.1, (am s.2.1 s.2.2.1).1, (am s.2.1 s.2.2.1).2, false) else ((al s.1 s.2.2.1).1, s.2.1, (al s.1 s.2.2.1).2, true)
def lR (al : α → Nat → α × Nat) (am : β → Nat → β × Nat) (s : α × β × Nat × Bool) : Nat → α × β × Nat × Bool
 | 0 => s
 | n + 1 => step al am (lR al am s n)
def jW (s : α × β × Nat × Bool) : α × β × Nat × Bool := (s.1, s.2.1, s.2.2.1, !s.2.2.2)
variable {V : List α} {W : List β} {dg : α → Nat → Bool} {te : β → Nat → Bool} {al : α → Nat → α × Nat} {am : β → Nat → β × Nat} {N l : Nat}
def ZK (V : List α) (W : List β) (dg : α → Nat → Bool) (te : β → Nat → Bool) (s : α × β × Nat × Bool) : Prop := s.1 ∈ V ∧ s.2.1 ∈ W ∧ (if s.2.2.2 = true then te s.2.1 s.2.2.1 = true else dg s.1 s.2.2.1 = true)
def Ok (V : List α) (W : List β) (dg : α → Nat → Bool) (te : β → Nat → Bool) (N l : Nat) (s : α × β × Nat × Bool) : Prop := s.1 ∈ V ∧ s.2.1 ∈ W ∧ (if s.2.2.2 = true then Rest (te s.2.1) (dg s.1) N l s.2.2.1 else Rest (dg s.1) (te s.2.1) N l s.2.2.1)
theorem Ok.val {s : α × β × Nat × Bool} (h : Ok V W dg te N l s) : ZK V W dg te s := by
 obtain ⟨a, b, d, t⟩ := s
 obtain ⟨h1, h2, h3⟩ := h
 refine ⟨h1, h2, ?_⟩
 cases t
 ·simp only [Bool.false_eq_true, if_false] at h3 ⊢; exact h3.1
 ·simp only [if_true] at h3 ⊢; exact h3.1
theorem AJ {dg : α → Nat → Bool} {g : Nat → Bool} {V : List α} {al : α → Nat → α × Nat} (h : lV V dg al) (hN : ∀ p ∈ V, ∀ j, dg p j = true → j < N) {a : α} (ha : a ∈ V) {d : Nat} (hr : Rest (dg a) g N l d) :
  (al a d).1 ∈ V ∧ (al a d).2 < N ∧ ((al a d).2 = l → Full (dg (al a d).1) g N) ∧ ((al a d).2 ≠ l → Rest g (dg (al a d).1) N l (al a d).2) := by
 obtain ⟨hq, fv, hk, hj, hu⟩ := h a ha d hr.1
 have Ai := Iv h ha hr
 have Tc := hN _ hq _ Ai.1
 refine ⟨hq, Tc, fun e => ?_, fun e => ?_⟩
 ·intro j R8
  have b := Ai.2 j R8
  rw [e] at b
  by_cases c : j = l
  ·subst c
   have b0 := Ai.1
   rw [e] at b0
   simp at b
   rw [b0, b]; rfl
  ·simpa [c] using b
 ·by_cases c : Full (dg (al a d).1) g N
  ·have a1 := Ai.2 _ Tc
   have a2 := c _ Tc
   rw [Ai.1] at a1 a2
   simp [e] at a1 a2
   rw [a1] at a2
   exact absurd a2 (by decide)
  ·exact JQ Tc c Ai e
where
 JQ {f g : Nat → Bool} {N l k : Nat} (hk : k < N) (hn : ¬ Full f g N) (h : Rest f g N l k) (fv : k ≠ l) : Rest g f N l k := by
  have a := h.2 k hk
  rw [h.1] at a
  simp [fv] at a
  refine ⟨a, fun j hj => ?_⟩
  have b := h.2 j hj
  by_cases c : j = k
  ·subst c; rw [h.1]; simp [fv]
  ·simp [c] at b ⊢; rw [← b, Bool.xor_comm]
theorem MJ (h : lV V dg al) (h' : lV W te am) (hN : ∀ p ∈ V, ∀ j, dg p j = true → j < N) (hM : ∀ p ∈ W, ∀ j, te p j = true → j < N) {s : α × β × Nat × Bool} (hs : Ok V W dg te N l s) :
  (step al am s).1 ∈ V ∧ (step al am s).2.1 ∈ W ∧ ((step al am s).2.2.1 = l → Full (dg (step al am s).1) (te (step al am s).2.1) N) ∧ ((step al am s).2.2.1 ≠ l → Ok V W dg te N l (step al am s)) := by
 obtain ⟨a, b, d, t⟩ := s
 obtain ⟨h1, h2, h3⟩ := hs
 cases t
 ·simp only [Bool.false_eq_true, if_false] at h3
  obtain ⟨k1, k2, k3, k4⟩ := AJ h hN h1 h3
  simp only [step, Bool.false_eq_true, if_false]
  exact ⟨k1, h2, k3, fun e => ⟨k1, h2, by simpa using k4 e⟩⟩
 ·simp only [if_true] at h3
  obtain ⟨k1, k2, k3, k4⟩ := AJ h' hM h2 h3
  simp only [step, if_true]
  exact ⟨h1, k1, fun e j hj => by rw [Bool.xor_comm]; exact k3 e j hj, fun e => ⟨h1, k1, by simpa using k4 e⟩⟩
theorem sP (h : lV V dg al) (h' : lV W te am) {s : α × β × Nat × Bool} (hs : ZK V W dg te s) :
  ZK V W dg te (jW (step al am s)) ∧ step al am (jW (step al am s)) = jW s := by
 obtain ⟨a, b, d, t⟩ := s
 obtain ⟨h1, h2, h3⟩ := hs
 cases t
 ·simp only [Bool.false_eq_true, if_false] at h3
  obtain ⟨k1, k2⟩ := zm h h1 h3
  simp only [step, jW, Bool.false_eq_true, if_false, Bool.not_true, Bool.not_false, k2]
  exact ⟨⟨(h a h1 d h3).1, h2, by simpa using k1⟩, trivial⟩
 ·simp only [if_true] at h3
  obtain ⟨k1, k2⟩ := zm h' h2 h3
  simp only [step, jW, Bool.false_eq_true, if_true, if_false, Bool.not_true, Bool.not_false, k2]
  exact ⟨⟨h1, (h' b h2 d h3).1, by simpa using k1⟩, trivial⟩
theorem JR {s s' : α × β × Nat × Bool} (e : jW s = jW s') : s = s' := by
 obtain ⟨a, b, d, t⟩ := s
 obtain ⟨a', b', d', t'⟩ := s'
 simp only [jW, Prod.mk.injEq] at e
 obtain ⟨rfl, rfl, rfl, e⟩ := e
 cases t <;> cases t' <;> simp_all
theorem GZ (h : lV V dg al) (h' : lV W te am) {s s' : α × β × Nat × Bool} (hs : ZK V W dg te s) (hs' : ZK V W dg te s') (e : step al am s = step al am s') : s = s' := by
 have a := (sP h h' hs).2
 have b := (sP h h' hs').2
 rw [e, b] at a
 exact JR a.symm
theorem JS (h : lV V dg al) (h' : lV W te am) {s : α × β × Nat × Bool} (hs : ZK V W dg te s) : step al am s ≠ jW s := by
 obtain ⟨a, b, d, t⟩ := s
 obtain ⟨h1, h2, h3⟩ := hs
 intro e
 cases t
 ·simp only [Bool.false_eq_true, if_false] at h3
  simp only [step, jW, Bool.false_eq_true, if_false, Prod.mk.injEq] at e
  exact (h a h1 d h3).2.1 e.1
 ·simp only [if_true] at h3
  simp only [step, jW, if_true, Prod.mk.injEq] at e
  exact (h' b h2 d h3).2.1 e.2.1
theorem step_drop (h : lV V dg al) (h' : lV W te am) {s : α × β × Nat × Bool} (hs : ZK V W dg te s) : (step al am s).2.2.1 ≠ s.2.2.1 := by
 obtain ⟨a, b, d, t⟩ := s
 obtain ⟨h1, h2, h3⟩ := hs
 intro e
 cases t
 ·simp only [Bool.false_eq_true, if_false] at h3
  simp only [step, Bool.false_eq_true, if_false] at e
  have := (h a h1 d h3).2.2.1
  rw [e, h3] at this
  exact absurd this (by decide)
 ·simp only [if_true] at h3
  simp only [step, if_true] at e
  have := (h' b h2 d h3).2.2.1
  rw [e, h3] at this
  exact absurd this (by decide)
theorem OZ (h : lV V dg al) (h' : lV W te am) (hN : ∀ p ∈ V, ∀ j, dg p j = true → j < N) (hM : ∀ p ∈ W, ∀ j, te p j = true → j < N) (s : α × β × Nat × Bool) (hs : Ok V W dg te N l s) (hd : s.2.2.1 = l) (hf : Full (dg s.1) (te s.2.1) N) (hl : l < N) :
  ∃ n, 2 ≤ n ∧ n ≤ 2 * (V.length * W.length) + 1 ∧ (lR al am s n).2.2.1 = l ∧ (∀ i, 1 ≤ i → i < n → (lR al am s i).2.2.1 ≠ l) ∧ (∀ i, i < n → Ok V W dg te N l (lR al am s i)) ∧
   (lR al am s n).1 ∈ V ∧ (lR al am s n).2.1 ∈ W ∧ Full (dg (lR al am s n).1) (te (lR al am s n).2.1) N ∧ ¬ ((lR al am s n).1 = s.1 ∧ (lR al am s n).2.1 = s.2.1) := by
 have ald : ∀ n, (∀ i, 1 ≤ i → i ≤ n → (lR al am s i).2.2.1 ≠ l) → ∀ i, i ≤ n → Ok V W dg te N l (lR al am s i) := by
  intro n hn i
  induction i with
  | zero => intro _; exact hs
  | succ i ih =>
   intro hi
   exact (MJ h h' hN hM (ih (by omega))).2.2.2 (hn (i + 1) (by omega) hi)
 have hex : ∃ n, n ≤ 2 * (V.length * W.length) ∧ (lR al am s (n + 1)).2.2.1 = l := by
  apply Classical.byContradiction
  intro tP
  have hX : ∀ i, 1 ≤ i → i ≤ 2 * (V.length * W.length) + 1 → (lR al am s i).2.2.1 ≠ l := by
   intro i h1 h2 e
   exact tP ⟨i - 1, by omega, by rw [show i - 1 + 1 = i by omega]; exact e⟩
  have gr := ald _ hX
  let L : List (α × β × Bool) := V.flatMap fun a => W.flatMap fun b => [(a, b, true), (a, b, false)]
  have hL : L.length = 2 * (V.length * W.length) := Dm V W
  obtain ⟨i, j, Vx, hj, e⟩ := aef (fun i => ((lR al am s (i + 1)).1, (lR al am s (i + 1)).2.1, (lR al am s (i + 1)).2.2.2)) (2 * (V.length * W.length) + 1) L (by omega) (fun i hi => by
   obtain ⟨h1, h2, _⟩ := gr (i + 1) (by omega)
   refine List.mem_flatMap.mpr ⟨_, h1, List.mem_flatMap.mpr ⟨_, h2, ?_⟩⟩
   cases (lR al am s (i + 1)).2.2.2 <;> simp)
  simp only [Prod.mk.injEq] at e
  have same : lR al am s (i + 1) = lR al am s (j + 1) := by
   have oi := gr (i + 1) (by omega)
   have oj := gr (j + 1) (by omega)
   revert oi oj e
   generalize lR al am s (i + 1) = x
   generalize lR al am s (j + 1) = y
   obtain ⟨a, b, d, t⟩ := x
   obtain ⟨a', b', d', t'⟩ := y
   rintro ⟨e1, e2, e3⟩ oi oj
   simp only at e1 e2 e3
   subst e1; subst e2; subst e3
   have hdd : d = d' := by
    obtain ⟨p1, p2, p3⟩ := oi
    obtain ⟨q1, q2, q3⟩ := oj
    cases t
    ·simp only [Bool.false_eq_true, if_false] at p3 q3
     exact xC p3 q3 (hN _ p1 _ p3.1)
    ·simp only [if_true] at p3 q3
     exact xC p3 q3 (hM _ p2 _ p3.1)
   rw [hdd]
  have back : ∀ k, k ≤ i + 1 → lR al am s (i + 1 - k) = lR al am s (j + 1 - k) := by
   intro k
   induction k with
   | zero => intro _; exact same
   | succ k ih =>
    intro hk
    have e1 := ih (by omega)
    rw [show i + 1 - k = (i + 1 - (k + 1)) + 1 by omega, show j + 1 - k = (j + 1 - (k + 1)) + 1 by omega] at e1
    exact GZ h h' (gr _ (by omega)).val (gr _ (by omega)).val e1
  have e0 := back (i + 1) (Nat.le_refl _)
  rw [Nat.sub_self] at e0
  have := hX (j + 1 - (i + 1)) (by omega) (by omega)
  rw [← e0] at this
  exact this hd
 obtain ⟨n0, hn0, hP⟩ := hex
 obtain ⟨m, hm, hPm, Ix⟩ := least (P := fun n => (lR al am s (n + 1)).2.2.1 = l) n0 hP
 have gr : ∀ i, i < m + 1 → Ok V W dg te N l (lR al am s i) := fun i hi => ald m (fun i h1 h2 e => Ix (i - 1) (by omega) (by
  show (lR al am s (i - 1 + 1)).2.2.1 = l
  rw [show i - 1 + 1 = i by omega]; exact e)) i (by omega)
 obtain ⟨k1, k2, k3, k4⟩ := MJ h h' hN hM (gr m (by omega))
 refine ⟨m + 1, ?_, by omega, hPm, fun i h1 h2 e => Ix (i - 1) (by omega) (by
  show (lR al am s (i - 1 + 1)).2.2.1 = l
  rw [show i - 1 + 1 = i by omega]; exact e), gr, k1, k2, k3 hPm, ?_⟩
 ·have : m ≠ 0 := by
   intro e
   subst e
   have := step_drop h h' hs.val
   exact this (by rw [hd]; exact hPm)
  omega
 ·rintro ⟨e1, e2⟩
  have f_ : lR al am s (m + 1) = jW s := by
   have o := gr m (by omega)
   have W6 : (step al am (lR al am s m)).2.2.1 = l := hPm
   have e1' : (step al am (lR al am s m)).1 = s.1 := e1
   have e2' : (step al am (lR al am s m)).2.1 = s.2.1 := e2
   have vb := (sP h h' o.val).1
   have vs := hs.val
   show step al am (lR al am s m) = jW s
   revert W6 e1' e2' vb
   generalize step al am (lR al am s m) = z
   obtain ⟨a, b, d, t⟩ := z
   intro W6 e1' e2' vb
   obtain ⟨a0, b0, d0, t0⟩ := s
   simp only at W6 e1' e2' hd
   subst W6; subst e1'; subst e2'; subst hd
   have ht : t = !t0 := by
    have x := hf _ hl
    obtain ⟨_, _, v1⟩ := vb
    obtain ⟨_, _, v2⟩ := vs
    simp only [jW] at v1
    cases t <;> cases t0 <;> simp only [Bool.not_false, Bool.not_true, Bool.false_eq_true, if_true, if_false] at v1 v2 ⊢
    ·rw [v1, v2] at x; exact absurd x (by decide)
    ·rw [v1, v2] at x; exact absurd x (by decide)
   rw [ht]; rfl
  have mir : ∀ i, i ≤ m + 1 → lR al am s (m + 1 - i) = jW (lR al am s i) := by
   intro i
   induction i with
   | zero => intro _; exact f_
   | succ i ih =>
    intro hi
    have e3 := ih (by omega)
    rw [show m + 1 - i = (m + 1 - (i + 1)) + 1 by omega] at e3
    have b := sP h h' (gr i (by omega)).val
    have e4 : step al am (lR al am s (m + 1 - (i + 1))) = step al am (jW (lR al am s (i + 1))) := by
     show lR al am s (m + 1 - (i + 1) + 1) = step al am (jW (step al am (lR al am s i)))
     rw [e3, b.2]
    exact GZ h h' (gr _ (by omega)).val b.1 e4
  rcases Nat.mod_two_eq_zero_or_one (m + 1) with c | c
  ·have e5 := mir ((m + 1) / 2) (by omega)
   rw [show m + 1 - (m + 1) / 2 = (m + 1) / 2 by omega] at e5
   generalize lR al am s ((m + 1) / 2) = z at e5
   obtain ⟨a, b, d, t⟩ := z
   simp [jW] at e5
  ·have e5 := mir ((m + 1) / 2) (by omega)
   rw [show m + 1 - (m + 1) / 2 = (m + 1) / 2 + 1 by omega] at e5
   exact JS h h' (gr _ (by omega)).val e5
end
end Go.Proofs.YtggiicplcglalaaGreat.LH
end
section
namespace Go.Proofs.YtggiicplcglalaaGreat.GmEdg
open YtggiicplcglalaaGreat.LH YtggiicplcglalaaGreat.GmFig YtggiicplcglalaaGreat.GmFo YtggiicplcglalaaGreat.GmPut YtggiicplcglalaaGreat.GmSpc YtggiicplcglalaaGreat.GmLab YtggiicplcglalaaGreat.GmDot
set_option linter.unusedVariables false
set_option linter.unusedSimpArgs false
set_option linter.unusedSectionVars false
theorem neg_zero {r x : Int} (hr : 1 ≤ r) (hx : 0 ≤ x) (h : r * x ≤ 0) : x = 0 := by
 have := Int.mul_le_mul_of_nonneg_right hr hx
 omega
theorem AK {r x : Int} (hr : 1 ≤ r) (hx : 0 ≤ x) : 0 ≤ r * x := Int.mul_nonneg (by omega) hx
theorem AO {F : Nat → H} {N n : Nat} (hn : d3 n) (hu : ∀ i, i < n → ∃ k, k < N ∧ F k = pad 1 (j6 n i, 0)) {r : List Int} (hr : r.length = n) (hp : ∀ x ∈ r, 1 ≤ x) (hk : ∃ k, k < N ∧ F k = pad (-1) (r, 1)) : Bounded F N n := by
 rintro ⟨x1, x2, x3, x4⟩ h4 hd hf
 simp only at h4
 subst h4
 obtain ⟨k, k1, k2⟩ := hk
 have hz := hf k k1
 rw [k2] at hz
 rcases hn with rfl | rfl | rfl
 ·obtain ⟨a, rfl⟩ := uk hr
  obtain ⟨i, i1, i2⟩ := hu 0 (by omega)
  have h1 := hf i i1
  have d1 := hd (fJ 1) (by simp [mG])
  have d2 := hd (fJ 2) (by simp [mG])
  have ha := hp a (by simp)
  rw [i2] at h1
  simp [ev, pad, j6, fJ, List.replicate] at h1 d1 d2
  have e : ev (pad (-1) ([a], 1)) (x1, x2, x3, 0) = -(a * x1) := by simp only [ev, pad]; grind
  rw [e] at hz
  have := neg_zero ha h1 (by omega)
  simp [this, d1, d2]
 ·obtain ⟨a, b, rfl⟩ := mR hr
  obtain ⟨i, i1, i2⟩ := hu 0 (by omega)
  obtain ⟨j, j1, j2⟩ := hu 1 (by omega)
  have h1 := hf i i1
  have h2 := hf j j1
  have d2 := hd (fJ 2) (by simp [mG])
  have ha := hp a (by simp)
  have hb := hp b (by simp)
  rw [i2] at h1
  rw [j2] at h2
  simp [ev, pad, j6, fJ, List.replicate] at h1 h2 d2
  have e : ev (pad (-1) ([a, b], 1)) (x1, x2, x3, 0) = -(a * x1 + b * x2) := by simp only [ev, pad]; grind
  rw [e] at hz
  have m1 := AK ha h1
  have m2 := AK hb h2
  have e1 := neg_zero ha h1 (by omega)
  have e2 := neg_zero hb h2 (by omega)
  simp [e1, e2, d2]
 ·obtain ⟨a, b, c, rfl⟩ := lQ hr
  obtain ⟨i, i1, i2⟩ := hu 0 (by omega)
  obtain ⟨j, j1, j2⟩ := hu 1 (by omega)
  obtain ⟨l, l1, l2⟩ := hu 2 (by omega)
  have h1 := hf i i1
  have h2 := hf j j1
  have h3 := hf l l1
  have ha := hp a (by simp)
  have hb := hp b (by simp)
  have hc := hp c (by simp)
  rw [i2] at h1
  rw [j2] at h2
  rw [l2] at h3
  simp [ev, pad, j6, fJ, List.replicate] at h1 h2 h3
  have e : ev (pad (-1) ([a, b, c], 1)) (x1, x2, x3, 0) = -(a * x1 + b * x2 + c * x3) := by simp only [ev, pad]; grind
  rw [e] at hz
  have m1 := AK ha h1
  have m2 := AK hb h2
  have m3 := AK hc h3
  have e1 := neg_zero ha h1 (by omega)
  have e2 := neg_zero hb h2 (by omega)
  have e3 := neg_zero hc h3 (by omega)
  simp [e1, e2, e3]
theorem CF {n m : Nat} (hm : d3 m) {M : List (List Int)} (h : uw n m M) : 0 < M.length ∧ (M.getD 0 []).length = n ∧ ∀ x ∈ M.getD 0 [], 1 ≤ x := by
 have h0 : 0 < M.length := by rw [h.1]; rcases hm with h | h | h <;> omega
 obtain ⟨a, b⟩ := h.2 _ (GmFig.ic h0)
 exact ⟨h0, a, fun x hx => (b x hx).1⟩
theorem S3 {n m : Nat} (hn : d3 n) (hm : d3 m) {M : List (List Int)} (h : uw n m M) : Bounded (FA n M) (n + m) n := by
 obtain ⟨h0, h1, h2⟩ := CF hm h
 have hl := h.1
 refine AO hn (fun i hi => ⟨i, by omega, by unfold FA; rw [if_pos hi]⟩) h1 h2 ⟨n, by omega, ?_⟩
 unfold FA
 rw [if_neg (by omega), Nat.sub_self]
theorem S4 {n m : Nat} (hn : d3 n) (hm : d3 m) {M : List (List Int)} (h : uw n m M) : Bounded (FB n M) (n + m) n := by
 obtain ⟨h0, h1, h2⟩ := CF hm h
 have hl := h.1
 refine AO hn (fun i hi => ⟨m + i, by omega, ?_⟩) h1 h2 ⟨0, by omega, ?_⟩
 ·unfold FB
  rw [if_neg (by omega), show m + i - M.length = i by omega]
 ·unfold FB
  rw [if_pos h0]
def MK (V : List (List Int)) (F : Nat → H) (N : Nat) (p : List Int) (l : Nat) (r : List Int × Nat) : Prop :=
 r.1 ∈ V ∧ r.1 ≠ p ∧ LH.tight F N (e6 p) r.2 = false ∧ (∀ j, LH.tight F N (e6 r.1) j = true ↔ ((LH.tight F N (e6 p) j = true ∧ j ≠ l) ∨ j = r.2)) ∧ ∀ q ∈ V, q ≠ p → (∀ j, LH.tight F N (e6 p) j = true → j ≠ l → LH.tight F N (e6 q) j = true) → q = r.1
open Classical in
noncomputable def alC (V : List (List Int)) (F : Nat → H) (N : Nat) (p : List Int) (l : Nat) : List Int × Nat :=
 if h : ∃ r, MK V F N p l r then Classical.choose h else (p, l)
theorem aei {V : List (List Int)} {F : Nat → H} {N : Nat} {p : List Int} {l : Nat} (h : ∃ r, MK V F N p l r) : MK V F N p l (alC V F N p l) := by
 unfold alC
 rw [dif_pos h]
 exact Classical.choose_spec h
theorem S5 {F : Nat → H} {N dim : Nat} (hd : dim = 1 ∨ dim = 2 ∨ dim = 3) {p : List Int} (h : eX F N dim p) (hr : (jL F N (e6 p)).length ≤ dim) : (jL F N (e6 p)).length = dim := by
 obtain ⟨_, _, _, _, S, hS, h0, mQ⟩ := h
 have := adv.Iy S (jL F N (e6 p)) (q_ hd hS mQ) (fun k hk => (iA F N).mpr (by simp [LH.tight, h0 k hk]))
 omega
theorem G0 {F : Nat → H} {N dim : Nat} (hd : dim = 1 ∨ dim = 2 ∨ dim = 3) (hB : Bounded F N dim) {V : List (List Int)} (hV : ∀ p, p ∈ V ↔ eX F N dim p) (Vp : ∀ p ∈ V, (jL F N (e6 p)).length ≤ dim) :
  lV V (fun p j => LH.tight F N (e6 p) j) (alC V F N) := by
 have hC := Iz hd hB hV (fun p hp => S5 hd ((hV p).1 hp) (Vp p hp))
 intro p hp l hl
 have hex : ∃ r, MK V F N p l r := by
  obtain ⟨q, k, h1, h2, h3, h4, h5⟩ := adv hC (List.mem_map_of_mem hp) hl
  obtain ⟨q0, q1, rfl⟩ := List.mem_map.1 h1
  refine ⟨(q0, k), q1, fun e => h2 (by have e' : q0 = p := e; rw [e']), h3, h4, fun q hq fv hs => ?_⟩
  refine D2 hd ((hV q).1 hq).1 ((hV q0).1 q1).1 (h5 _ (List.mem_map_of_mem hq) (fun e => fv ?_) hs)
  exact D2 hd ((hV q).1 hq).1 ((hV p).1 hp).1 e
 obtain ⟨a, b, c, d, e⟩ := aei hex
 exact ⟨a, b, c, d, e⟩
theorem G1 {F : Nat → H} {N : Nat} {x : H} {j : Nat} (h : LH.tight F N x j = true) : j < N := by
 simp [LH.tight] at h
 exact h.1
theorem vE {L : List (List Int)} (h : qa L) : L.Nodup := by
 refine List.Pairwise.imp ?_ h
 intro a b Lo e
 subst e
 rw [lI] at Lo
 exact absurd Lo (by decide)
theorem Dn {τ : Type} [DecidableEq τ] (A B : List τ) (hn : A.Nodup) (hs : ∀ x ∈ A, x ∈ B) : A.length ≤ B.length := adv.Iy A B hn hs
theorem vF {F : Nat → H} {C : Nat → Cd} {N n : Nat} (hT : Fq F C N n) (hd : n = 1 ∨ n = 2 ∨ n = 3) (hN : N = n + 1 ∨ N = n + 2 ∨ N = n + 3) {V : List (List Int)} (hs : V.Nodup) (hV : ∀ p, p ∈ V ↔ eX F N n p) : V.length ≤ 20 := by
 have h1 : V.length ≤ ((GmCh.zq N n 0).map fun S => pO (fc (S.map C))).length := by
  refine Dn _ _ hs fun p hp => ?_
  obtain ⟨S, s1, s2, s3, s4, s5, s6⟩ := (tQ hT hd p).1 ((hV p).1 hp)
  exact List.mem_map.2 ⟨S, (GmCh.n4 N n 0 S).2 ⟨s1, s2, fun k hk => ⟨Nat.zero_le k, s3 k hk⟩⟩, s6.symm⟩
 refine Nat.le_trans h1 ?_
 rw [List.length_map]
 rcases hd with rfl | rfl | rfl <;> rcases hN with rfl | rfl | rfl <;> decide
theorem JT {n : Nat} (hn : d3 n) {r : List Int} (hr : r.length = n) : D5 r 1 (origin n) = -1 := by
 unfold D5
 rw [hr]
 rcases hn with rfl | rfl | rfl
 ·obtain ⟨a, rfl⟩ := uk hr; simp [origin, jM, List.replicate]
 ·obtain ⟨a, b, rfl⟩ := mR hr; simp [origin, jM, List.replicate]
 ·obtain ⟨a, b, c, rfl⟩ := lQ hr; simp [origin, jM, List.replicate]
theorem xN {n : Nat} (hn : d3 n) {i : Nat} (hi : i < n) : ev (pad 1 (j6 n i, 0)) (e6 (origin n)) = 0 := by
 rw [sN hn (by simp [origin]) hi]
 unfold origin
 rw [jx (by simp; omega), List.getElem_append_left (by simpa using hi)]
 simp
theorem AP {n : Nat} (hn : d3 n) {r : List Int} (hr : r.length = n) : ev (pad (-1) (r, 1)) (e6 (origin n)) ≠ 0 := by
 rw [zv hn 1 (-1) hr (by simp [origin]), JT hn hr]
 decide
theorem lp {n m : Nat} (hn : d3 n) {M : List (List Int)} (h : uw n m M) {j : Nat} (hj : j < n + m) : LH.tight (FA n M) (n + m) (e6 (origin n)) j = decide (j < n) := by
 have hl := h.1
 unfold LH.tight FA
 rw [decide_eq_true hj, Bool.true_and]
 by_cases c : j < n
 ·rw [if_pos c, xN hn c, decide_eq_true c, decide_eq_true rfl]
 ·rw [if_neg c, decide_eq_false c, decide_eq_false (AP hn (h.2 _ (GmFig.ic (by omega))).1)]
theorem oh {n m : Nat} (hn : d3 n) {M : List (List Int)} (h : uw n m M) {j : Nat} (hj : j < n + m) : LH.tight (FB n M) (n + m) (e6 (origin n)) j = decide (m ≤ j) := by
 have hl := h.1
 unfold LH.tight FB
 rw [decide_eq_true hj, Bool.true_and, hl]
 by_cases c : j < m
 ·rw [if_pos c, decide_eq_false (show ¬ m ≤ j by omega), decide_eq_false (AP hn (h.2 _ (GmFig.ic (by omega))).1)]
 ·rw [if_neg c, decide_eq_true (show m ≤ j by omega), xN hn (show j - m < n by omega), decide_eq_true rfl]
theorem AQ {n m : Nat} (hn : d3 n) {M : List (List Int)} (h : uw n m M) {p : List Int} (hp : eX (FA n M) (n + m) n p) (ht : ∀ j, j < n → LH.tight (FA n M) (n + m) (e6 p) j = true) : p = origin n := by
 have hl := h.1
 have ho := kN hn M (fun r hr => (h.2 r hr).1)
 rw [hl] at ho
 have hd : xn (FA n M) (List.range n) ≠ 0 := by
  rcases hn with rfl | rfl | rfl
  ·show fs (FA 1 M 0) (fJ 1) (fJ 2) ≠ 0
   simp only [FA, show (0 : Nat) < 1 by omega, if_true]
   decide
  ·show fs (FA 2 M 0) (FA 2 M 1) (fJ 2) ≠ 0
   simp only [FA, show (0 : Nat) < 2 by omega, show (1 : Nat) < 2 by omega, if_true]
   decide
  ·show fs (FA 3 M 0) (FA 3 M 1) (FA 3 M 2) ≠ 0
   simp only [FA, show (0 : Nat) < 3 by omega, show (1 : Nat) < 3 by omega, show (2 : Nat) < 3 by omega, if_true]
   decide
 refine sx (F := FA n M) (N := n + m) hn (List.length_range) hd hp.1 ho.1 hp.2.1 ho.2.1 hp.2.2.1 ho.2.2.1 (fun k hk => ?_) (fun k hk => ?_)
 ·have := ht k (List.mem_range.1 hk)
  simp [LH.tight] at this
  exact this.2
 ·have := lp hn h (j := k) (by have := List.mem_range.1 hk; omega)
  rw [decide_eq_true (List.mem_range.1 hk)] at this
  simp [LH.tight] at this
  exact this.2
section
variable {m n : Nat} (hm : d3 m) (hn : d3 n) {a b : List (List Int)} (ha : wN m n a) (hb : wN m n b) (h0 : (a.getD 0 []).length = n)
def wP (m n : Nat) (b : List (List Int)) (p : List Int) (j : Nat) : Bool := LH.tight (FA m (M1 n b)) (m + n) (e6 p) j
def wQ (m n : Nat) (a : List (List Int)) (p : List Int) (j : Nat) : Bool := LH.tight (FB n (M2 a)) (n + m) (e6 p) j
noncomputable def wR (m n : Nat) (b : List (List Int)) : List Int → Nat → List Int × Nat := alC (V1 m n b) (FA m (M1 n b)) (m + n)
noncomputable def wU (m n : Nat) (a : List (List Int)) : List Int → Nat → List Int × Nat := alC (V2 m n a) (FB n (M2 a)) (n + m)
include hm hn ha hb h0
theorem aej (p : List Int) : p ∈ V2 m n a ↔ eX (FB n (M2 a)) (n + m) n p := by
 rw [GW hm hn ha hb h0]
 have := Bu hn (M2 a) p
 rwa [(ir ha).1] at this
theorem S6 (hr : Dl m n b = true) : lV (V1 m n b) (wP m n b) (wR m n b) := by
 refine G0 hm (S3 hm hn (j7 hb)) (GV hm hn ha hb h0) fun p hp => ?_
 have := of_decide_eq_true (List.all_eq_true.1 hr p hp)
 unfold vD lc at this
 rwa [List.length_map] at this
theorem S7 (hr : BM m n a = true) : lV (V2 m n a) (wQ m n a) (wU m n a) := by
 refine G0 hn (S4 hn hm (ir ha)) (aej hm hn ha hb h0) fun p hp => ?_
 have := of_decide_eq_true (List.all_eq_true.1 hr p hp)
 unfold xr lc at this
 rwa [List.length_map] at this
theorem many1 : (V1 m n b).length ≤ 20 := by
 have hT := JC (dim := m) (M := M1 n b) (fun r hr => ((j7 hb).2 r hr).1)
 rw [(j7 hb).1] at hT
 exact vF hT hm (by rcases hn with h | h | h <;> omega) (vE (kR hm hn (j7 hb))) (GV hm hn ha hb h0)
theorem ZL : (V2 m n a).length ≤ 20 := by
 have hT := JC (dim := n) (M := M2 a) (fun r hr => ((ir ha).2 r hr).1)
 rw [(ir ha).1] at hT
 exact vF hT hn (by rcases hm with h | h | h <;> omega) (vE (kR hn hm (ir ha))) (GW hm hn ha hb h0)
theorem W7 : origin m ∈ V1 m n b := (GV hm hn ha hb h0 _).2 (by
 have := kN hm (M1 n b) (fun r hr => ((j7 hb).2 r hr).1)
 rwa [(j7 hb).1] at this)
theorem W8 : origin n ∈ V2 m n a := (GW hm hn ha hb h0 _).2 (by
 have := kN hn (M2 a) (fun r hr => ((ir ha).2 r hr).1)
 rwa [(ir ha).1] at this)
theorem xO : Full (wP m n b (origin m)) (wQ m n a (origin n)) (m + n) := by
 intro j hj
 unfold wP wQ
 rw [lp hm (j7 hb) hj, oh hn (ir ha) (by omega)]
 by_cases c : j < m
 ·rw [decide_eq_true c, decide_eq_false (by omega)]; rfl
 ·rw [decide_eq_false c, decide_eq_true (by omega)]; rfl
def start (m n l : Nat) : List Int × List Int × Nat × Bool := (origin m, origin n, l, decide (m ≤ l))
theorem S8 {l : Nat} (hl : l < m + n) : Ok (V1 m n b) (V2 m n a) (wP m n b) (wQ m n a) (m + n) l (start m n l) := by
 have hf := xO hm hn ha hb h0
 refine ⟨W7 hm hn ha hb h0, W8 hm hn ha hb h0, ?_⟩
 have e1 : wP m n b (origin m) l = decide (l < m) := lp hm (j7 hb) hl
 have e2 : wQ m n a (origin n) l = decide (m ≤ l) := oh hn (ir ha) (by omega)
 show if decide (m ≤ l) = true then LH.Rest (wQ m n a (origin n)) (wP m n b (origin m)) (m + n) l l else LH.Rest (wP m n b (origin m)) (wQ m n a (origin n)) (m + n) l l
 by_cases c : m ≤ l
 ·rw [if_pos (decide_eq_true c)]
  refine ⟨by rw [e2, decide_eq_true c], fun j hj => ?_⟩
  have := hf j hj
  by_cases e : j = l
  ·subst e
   rw [e1, decide_eq_false (show ¬ j < m by omega)]
   simp
  ·rw [Bool.xor_comm] at this
   simpa [e] using this
 ·rw [if_neg (by simp [c])]
  refine ⟨by rw [e1, decide_eq_true (show l < m by omega)], fun j hj => ?_⟩
  have := hf j hj
  by_cases e : j = l
  ·subst e
   rw [e2, decide_eq_false c]
   simp
  ·simpa [e] using this
theorem walk (hr : (Dl m n b && BM m n a) = true) {l : Nat} (hl : l < m + n) :
  ∃ s, 1 ≤ s ∧ s ≤ 801 ∧ (lR (wR m n b) (wU m n a) (start m n l) s).2.2.1 = l ∧ (∀ i, 1 ≤ i → i < s → (lR (wR m n b) (wU m n a) (start m n l) i).2.2.1 ≠ l) ∧
   (∀ i, i < s → ZK (V1 m n b) (V2 m n a) (wP m n b) (wQ m n a) (lR (wR m n b) (wU m n a) (start m n l) i)) ∧
   (lR (wR m n b) (wU m n a) (start m n l) s).1 ∈ V1 m n b ∧ (lR (wR m n b) (wU m n a) (start m n l) s).2.1 ∈ V2 m n a ∧
   (lR (wR m n b) (wU m n a) (start m n l) s).1 ≠ origin m ∧ (lR (wR m n b) (wU m n a) (start m n l) s).2.1 ≠ origin n := by
 simp only [Bool.and_eq_true] at hr
 have h1 := S6 hm hn ha hb h0 hr.1
 have h2 := S7 hm hn ha hb h0 hr.2
 have hN : ∀ p ∈ V1 m n b, ∀ j, wP m n b p j = true → j < m + n := fun p _ j h => G1 h
 have hM : ∀ p ∈ V2 m n a, ∀ j, wQ m n a p j = true → j < m + n := fun p _ j h => by have := G1 h; omega
 obtain ⟨s, s1, s2, s3, s4, s5, s6, s7, s8, s9⟩ := OZ h1 h2 hN hM (start m n l) (S8 hm hn ha hb h0 hl) rfl (xO hm hn ha hb h0) hl
 have l1 := many1 hm hn ha hb h0
 have l2 := ZL hm hn ha hb h0
 have l3 : (V1 m n b).length * (V2 m n a).length ≤ 20 * 20 := Nat.mul_le_mul l1 l2
 refine ⟨s, by omega, by omega, s3, s4, fun i hi => (s5 i hi).val, s6, s7, fun e => ?_, fun e => ?_⟩
 ·refine s9 ⟨e, ?_⟩
  refine AQ hn (ir ha) ((GW hm hn ha hb h0 _).1 s7) fun j hj => ?_
  have R8 : j + m < m + n := by omega
  have x := s8 (j + m) R8
  rw [e] at x
  have y : wP m n b (origin m) (j + m) = decide (j + m < m) := lp hm (j7 hb) R8
  rw [y, decide_eq_false (by omega)] at x
  simp only [Bool.false_xor] at x
  obtain ⟨z1, z2⟩ := Rh n (M2 a) (k := j) (by omega)
  have z3 : n7 n (M2 a).length j = j + m := by unfold n7; rw [if_pos hj, (ir ha).1]; omega
  rw [z3] at z2
  simp only [wQ, LH.tight, Bool.and_eq_true, decide_eq_true_eq] at x
  simp only [LH.tight, Bool.and_eq_true, decide_eq_true_eq]
  exact ⟨by omega, by rw [z2]; exact x.2⟩
 ·refine s9 ⟨?_, e⟩
  refine AQ hm (j7 hb) ((GV hm hn ha hb h0 _).1 s6) fun j hj => ?_
  have R8 : j < m + n := by omega
  have x := s8 j R8
  rw [e] at x
  have y : wQ m n a (origin n) j = decide (m ≤ j) := oh hn (ir ha) (by omega)
  rw [y, decide_eq_false (by omega)] at x
  have z : wP m n b (lR (wR m n b) (wU m n a) (start m n l) s).1 j = true := by simpa using x
  exact z
end
end Go.Proofs.YtggiicplcglalaaGreat.GmEdg
end
section
namespace Go.Proofs.YtggiicplcglalaaGreat.GmAlg
open Go.RowKit YtggiicplcglalaaGreat.All YtggiicplcglalaaGreatW.PrintWords YtggiicplcglalaaGreatW.PrintLast YtggiicplcglalaaGreat.Eqs YtggiicplcglalaaGreat.GmDet YtggiicplcglalaaGreat.LH YtggiicplcglalaaGreat.GmFig YtggiicplcglalaaGreat.GmImp YtggiicplcglalaaGreat.GmFo YtggiicplcglalaaGreat.GmSpc YtggiicplcglalaaGreat.GmLab YtggiicplcglalaaGreat.GmEdg
set_option linter.unusedVariables false
set_option linter.unusedSimpArgs false
set_option linter.unusedSectionVars false
theorem G2 {a x : Int} {l : List Int} (h : a = x) : decide (x ∈ a :: l) = true := by simp [h]
theorem G3 {a x : Int} {l : List Int} (h : ¬ a = x) : decide (x ∈ a :: l) = decide (x ∈ l) := by
 have : ¬ x = a := fun e => h e.symm
 simp [this]
theorem aek (l : List Int) (x : Int) (hl : l.length ≤ 1000) (d : Nat) : ∀ i : Nat, i + d = l.length → Ev (fun k => bu.l0 k x l (l.length : Int) i) (decide (x ∈ l.drop i)) := by
 induction d with
 | zero =>
  intro i hi
  rw [List.drop_of_length_le (show l.length ≤ i by omega)]
  exact Ev.step (fun k => by simp only [bu.l0]; rw [if_neg (by omega)]) (Ev.now false)
 | succ d ih =>
  intro i hi
  have h1 : i < l.length := by omega
  rw [List.drop_eq_getElem_cons h1]
  by_cases e : l[i] = x
  ·rw [G2 e]
   exact Ev.step (fun k => by simp only [bu.l0]; rw [if_pos (by omega), if_pos (by omega), if_pos (by omega), b9 h1, if_pos e]) (Ev.now true)
  ·rw [G3 e]
   exact Ev.step (fun k => by simp only [bu.l0]; rw [if_pos (by omega), if_pos (by omega), if_pos (by omega), b9 h1, if_neg e, fC i (by omega)]) (ih (i + 1) (by omega))
theorem ML (l : List Int) (x : Int) (hl : l.length ≤ 1000) : Ev (fun k => bu.f k l x) (decide (x ∈ l)) := by
 have := aek l x hl l.length 0 (by omega)
 rwa [List.drop_zero] at this
theorem S9 (l : List Int) (x : Int) (hl : l.length ≤ 1000) (d : Nat) : ∀ i : Nat, i + d = l.length → ∃ r : Int, Ev (fun k => av.l0 k l x (l.length : Int) i) r ∧ decide (r ≥ 0) = decide (x ∈ l.drop i) := by
 induction d with
 | zero =>
  intro i hi
  rw [List.drop_of_length_le (show l.length ≤ i by omega)]
  exact ⟨-1, Ev.step (fun k => by simp only [av.l0]; rw [if_neg (by omega)]) (Ev.now (-1)), by simp⟩
 | succ d ih =>
  intro i hi
  have h1 : i < l.length := by omega
  rw [List.drop_eq_getElem_cons h1]
  by_cases e : l[i] = x
  ·rw [G2 e]
   exact ⟨(i : Int), Ev.step (fun k => by simp only [av.l0]; rw [if_pos (by omega), if_pos (by omega), if_pos (by omega), b9 h1, if_pos e.symm]) (Ev.now _), decide_eq_true (by omega)⟩
  ·rw [G3 e]
   obtain ⟨r, h2, h3⟩ := ih (i + 1) (by omega)
   exact ⟨r, Ev.step (fun k => by simp only [av.l0]; rw [if_pos (by omega), if_pos (by omega), if_pos (by omega), b9 h1, if_neg (fun h => e h.symm), fC i (by omega)]) h2, h3⟩
theorem MM (l : List Int) (x : Int) (hl : l.length ≤ 1000) : Ev (fun k => bT.f k l x) (decide (x ∈ l)) := by
 obtain ⟨r, h1, h2⟩ := S9 l x hl l.length 0 (by omega)
 rw [List.drop_zero] at h2
 rw [← h2]
 exact Ev.bind h1 (Ev.now _)
theorem arQ (a b : List Int) (hl : a.length ≤ 1000) : Ev (fun k => a7.f k a b) (decide (a = b)) := by
 refine ⟨a.length + 1, fun k hk => ?_⟩
 obtain ⟨d, rfl⟩ : ∃ d, k = a.length + 1 + d := ⟨k - (a.length + 1), by omega⟩
 clear hk
 induction d with
 | zero => exact G4 a b (by omega)
 | succ d ih => exact a7.mono _ _ _ _ ih
theorem W9 (l p : List Int) (hp : p.length ≤ 1000) : Ev (fun k => fK.f k l p) (l.any fun x => !decide (x ∈ p)) := by
 obtain ⟨K, h⟩ := D6 (fun x k => bT.f k p x) (fun x => decide (x ∈ p)) l (fun x _ => MM p x hp)
 refine ⟨K, fun k hk => ?_⟩
 have h2 := h k hk
 have hm : ∀ j, j < l.length → uA k l p j = some (decide (l.getD j 0 ∈ p)) := fun j hj => h2 _ (by
  rw [jx hj]
  exact List.getElem_mem _)
 show fK.f k l p = _
 unfold fK.f
 rw [if_pos (List.all_eq_true.mpr fun j hj => by
  have tg : j < l.length := by have := List.mem_range'_1.1 hj; omega
  rw [hm j tg]; rfl)]
 congr 1
 rw [any_congr (q := fun j => !decide (l.getD j 0 ∈ p)) (fun j hj => by
  have tg : j < l.length := by have := List.mem_range'_1.1 hj; omega
  rw [hm j tg, Option.getD_some]), CE 0 (fun x => !decide (x ∈ p)) l]
section
variable {D : Int} {L : List bm} {V : List (List Int)} {dg : List Int → List Int} (wV : ∀ p ∈ V, Ev (fun k => aV.f k D L p) (dg p)) (hV : V.length ≤ 1000) (hp : ∀ p ∈ V, p.length ≤ 1000) (hl : ∀ p ∈ V, (dg p).length ≤ 1000)
 {p q : List Int} {x y : Int} {kept : List Int} (hk : kept.length ≤ 1000) (hq : q ∈ V) (R_ : q ≠ p) (hy : y ∈ dg q) (hyk : y ∉ kept) (lS : ∀ z ∈ dg q, z ∈ kept ∨ z = y)
include wV hV hp hl hk hq R_ hy hyk lS
theorem ale (i : Nat) (hi : i < V.length) (he : V[i] = q) (d : Nat) : ∀ j : Nat, j + d = (dg q).length → y ∈ (dg q).drop j → Ev (fun k => aN.l1 k p kept V (V.length : Int) (i : Int) (dg q) ((dg q).length : Int) (j : Int) D L x) (q, y) := by
 have hlq := hl q hq
 induction d with
 | zero =>
  intro j hj hm
  rw [List.drop_eq_nil_of_le (by omega)] at hm
  simp at hm
 | succ d ih =>
  intro j hj hm
  have h1 : j < (dg q).length := by omega
  have kH : (j : Int) < ((dg q).length : Int) := by omega
  have lu : (0 : Int) ≤ (j : Int) := by omega
  have ej := fC j (by omega)
  rw [List.drop_eq_getElem_cons h1] at hm
  refine Ev.step (f := fun k => (bT.f k kept (dg q)[j]).bind fun P9 => (if P9 = true then (aN.l1 k p kept V (V.length : Int) (i : Int) (dg q) ((dg q).length : Int) ((j + 1 : Nat) : Int) D L x) else (some (q, (dg q)[j])))) (fun k => ?_) (Ev.bind (MM kept (dg q)[j] hk) ?_)
  ·simp only [aN.l1]
   rw [if_pos kH, if_pos lu, if_pos kH, b9 h1, ej, oU hi, he]
  ·by_cases c : (dg q)[j] ∈ kept
   ·rw [decide_eq_true c]
    simp only [if_true]
    refine ih (j + 1) (by omega) ?_
    rcases List.mem_cons.1 hm with e | e
    ·exact absurd (e ▸ c) hyk
    ·exact e
   ·rw [decide_eq_false c]
    rcases lS _ (List.getElem_mem h1) with e | e
    ·exact absurd e c
    ·rw [e]; exact Ev.now _
theorem alf (BG : ∀ z ∈ kept, z ∈ dg q) (O0 : ∀ c ∈ V, c ≠ p → (∀ z ∈ kept, z ∈ dg c) → c = q) (d : Nat) : ∀ i : Nat, i + d = V.length → q ∈ V.drop i → Ev (fun k => aN.l0 k p kept V (V.length : Int) (i : Int) D L x) (q, y) := by
 induction d with
 | zero =>
  intro i hi hm
  rw [List.drop_eq_nil_of_le (by omega)] at hm
  simp at hm
 | succ d ih =>
  intro i hi hm
  have h1 : i < V.length := by omega
  have kH : (i : Int) < (V.length : Int) := by omega
  have lu : (0 : Int) ≤ (i : Int) := by omega
  have ei := fC i (by omega)
  have zo := List.getElem_mem h1
  rw [List.drop_eq_getElem_cons h1] at hm
  refine Ev.step (f := fun k => (aV.f k D L V[i]).bind fun gN => ((a7.f k V[i] p).bind fun P8 => (if P8 = true then (aN.j1 k p kept V (V.length : Int) (i : Int) true D L x gN) else ((fK.f k kept gN).bind fun NR => (aN.j1 k p kept V (V.length : Int) (i : Int) NR D L x gN))))) (fun k => ?_) (Ev.bind (wV _ zo) (Ev.bind (arQ V[i] p (hp _ zo)) ?_))
  ·simp only [aN.l0]
   rw [if_pos kH, if_pos lu, if_pos kH, oU h1]
  ·have next : V[i] ≠ q → Ev (fun k => aN.j1 k p kept V (V.length : Int) (i : Int) true D L x (dg V[i])) (q, y) := by
    intro fv
    refine Ev.step (f := fun k => aN.l0 k p kept V (V.length : Int) ((i + 1 : Nat) : Int) D L x) (fun k => ?_) (ih (i + 1) (by omega) ?_)
    ·simp only [aN.j1]
     rw [if_pos trivial, ei]
    ·rcases List.mem_cons.1 hm with e | e
     ·exact absurd e.symm fv
     ·exact e
   by_cases c : V[i] = p
   ·rw [decide_eq_true c]
    simp only [if_true]
    exact next (fun e => R_ (e ▸ c))
   ·rw [decide_eq_false c]
    simp only [Bool.false_eq_true, if_false]
    refine Ev.bind (W9 kept (dg V[i]) (hl _ zo)) ?_
    by_cases c2 : ∀ z ∈ kept, z ∈ dg V[i]
    ·have e := O0 _ zo c c2
     have ea : (kept.any fun z => !decide (z ∈ dg V[i])) = false := by
      rw [List.any_eq_false]
      intro z hz
      simp [c2 z hz]
     rw [ea]
     have h5 := ale (x := x) wV hV hp hl hk hq R_ hy hyk lS i h1 e (dg q).length 0 (Nat.zero_add _) (by rw [List.drop_zero]; exact hy)
     refine Ev.step (f := fun k => aN.l1 k p kept V (V.length : Int) (i : Int) (dg q) ((dg q).length : Int) 0 D L x) (fun k => ?_) h5
     simp only [aN.j1]
     rw [if_neg (by decide), e]
    ·have ea : (kept.any fun z => !decide (z ∈ dg V[i])) = true := by
      rw [List.any_eq_true]
      apply Classical.byContradiction
      intro tP
      apply c2
      intro z hz
      apply Classical.byContradiction
      intro lu
      exact tP ⟨z, hz, by simp [lu]⟩
     rw [ea]
     exact next (fun e => c2 (by rw [e]; exact BG))
end
theorem G6 {D : Int} {L : List bm} {V : List (List Int)} {dg : List Int → List Int} (ael : Ev (fun k => aM.f k D L) V) (wV : ∀ p ∈ V, Ev (fun k => aV.f k D L p) (dg p)) (hV : V.length ≤ 1000) (hp : ∀ p ∈ V, p.length ≤ 1000) (hl : ∀ p ∈ V, (dg p).length ≤ 1000)
  {p q : List Int} {x y : Int} (hpV : p ∈ V) (hq : q ∈ V) (R_ : q ≠ p) (hy : y ∉ dg p) (lS : ∀ z, z ∈ dg q ↔ (z ∈ dg p ∧ z ≠ x) ∨ z = y) (O0 : ∀ c ∈ V, c ≠ p → (∀ z ∈ dg p, z ≠ x → z ∈ dg c) → c = q) : Ev (fun k => aN.f k D L p x) (q, y) := by
 have hkm : ∀ z, z ∈ ((dg p).filter fun z => !(z == x)) ↔ z ∈ dg p ∧ z ≠ x := fun z => by simp [List.mem_filter]
 have hkl : ((dg p).filter fun z => !(z == x)).length ≤ 1000 := Nat.le_trans (List.length_filter_le _ _) (hl p hpV)
 have h0 := alf (p := p) (x := x) wV hV hp hl hkl hq R_ ((lS y).2 (.inr rfl)) (fun h => hy ((hkm y).1 h).1) (fun z hz => by
  rcases (lS z).1 hz with e | e
  ·exact .inl ((hkm z).2 e)
  ·exact .inr e) (fun z hz => (lS z).2 (.inl ((hkm z).1 hz))) (fun c hc fv hs => O0 c hc fv (fun z hz hzx => hs z ((hkm z).2 ⟨hz, hzx⟩))) V.length 0 (Nat.zero_add _) (by rw [List.drop_zero]; exact hq)
 unfold aN.f
 exact Ev.bind (wV p hpV) (Ev.bind (Ev.now _) (Ev.bind ael h0))
def lq (own : List Int) : List Int → Int → Int
 | [], a => a
 | z :: r, a => lq own r (if z ∈ own then a else z)
theorem AR (own : List Int) (y : Int) : ∀ (L : List Int) (a : Int), (∀ z ∈ L, z ∉ own → z = y) → (a = y ∨ ∃ z ∈ L, z ∉ own) → lq own L a = y
 | [], a, _, h => by
  rcases h with h | ⟨z, hz, _⟩
  ·exact h
  ·simp at hz
 | z :: r, a, h1, h2 => by
  unfold lq
  refine AR own y r _ (fun w hw => h1 w (List.mem_cons_of_mem _ hw)) ?_
  by_cases c : z ∈ own
  ·rw [if_pos c]
   rcases h2 with h2 | ⟨w, hw, hn⟩
   ·exact .inl h2
   ·rcases List.mem_cons.1 hw with e | e
    ·exact absurd (e ▸ c) hn
    ·exact .inr ⟨w, e, hn⟩
  ·rw [if_neg c]
   exact .inl (h1 z (by simp) c)
section
variable {A B : List (List Int)} {P : Int} {V : List (List Int)} {dg : List Int → List Int} (wV : ∀ p ∈ V, Ev (fun k => a_.f k A B P p) (dg p)) (hV : V.length ≤ 1000) (hp : ∀ p ∈ V, p.length ≤ 1000) (hl : ∀ p ∈ V, (dg p).length ≤ 1000)
 {p : List Int} {x : Int} {own : List Int} (ho : own.length ≤ 1000) (vo : 1 ≤ own.length)
include wV hV hp hl ho vo
theorem alg (i : Nat) (hi : i < V.length) (R : List Int × Int) (tP : ¬ (((dg V[i]).countP fun z => decide (z ∈ own)) + 1 = own.length ∧ x ∉ dg V[i]) → Ev (fun k => a6.l0 k P p x own V (V.length : Int) ((i + 1 : Nat) : Int) A B) R) (vG : ((dg V[i]).countP fun z => decide (z ∈ own)) + 1 = own.length → x ∉ dg V[i] → R = (V[i], lq own (dg V[i]) (-1))) (d : Nat) :
  ∀ (j : Nat) (n : Nat) (a : Int), j + d = (dg V[i]).length → n + ((dg V[i]).drop j).countP (fun z => decide (z ∈ own)) = (dg V[i]).countP (fun z => decide (z ∈ own)) → lq own ((dg V[i]).drop j) a = lq own (dg V[i]) (-1) →
   Ev (fun k => a6.l1 k P p x own (dg V[i]) (n : Int) a V (V.length : Int) (i : Int) (dg V[i]) ((dg V[i]).length : Int) (j : Int) A B) R := by
 have hll := hl _ (List.getElem_mem hi)
 have ei := fC i (by clear tP vG; omega)
 induction d with
 | zero =>
  intro j n a hj hn ha
  have hz : ¬ (j : Int) < ((dg V[i]).length : Int) := by clear hn ha tP vG; omega
  have H2 : (dg V[i]).length ≤ j := by clear hn ha tP vG; omega
  rw [List.drop_eq_nil_of_le H2] at hn ha
  simp only [List.countP_nil, Nat.add_zero, lq] at hn ha
  have ew : wrap64 ((own.length : Int) - 1) = ((own.length - 1 : Nat) : Int) := by
   rw [show (own.length : Int) - 1 = ((own.length - 1 : Nat) : Int) by clear hn ha tP vG; omega]
   exact AF (by clear hn ha tP vG; omega)
  by_cases c : n + 1 = own.length
  ·have c1 : (n : Int) = ((own.length - 1 : Nat) : Int) := by clear hn ha tP vG; omega
   refine Ev.step (f := fun k => (bu.f k (dg V[i]) x).bind fun RL => (if RL = true then (a6.l0 k P p x own V (V.length : Int) ((i + 1 : Nat) : Int) A B) else (some (V[i], a)))) (fun k => ?_) (Ev.bind (ML _ x hll) ?_)
   ·simp only [a6.l1]
    rw [if_neg hz, ew, if_pos c1, ei, oU hi]
   ·by_cases cx : x ∈ dg V[i]
    ·rw [decide_eq_true cx]
     simp only [if_true]
     exact tP (fun h => h.2 cx)
    ·rw [decide_eq_false cx]
     simp only [Bool.false_eq_true, if_false]
     rw [vG (by rw [← hn]; exact c) cx, ha]
     exact Ev.now _
  ·have c1 : ¬ (n : Int) = ((own.length - 1 : Nat) : Int) := by clear hn ha tP vG; omega
   refine Ev.step (f := fun k => (a6.l0 k P p x own V (V.length : Int) ((i + 1 : Nat) : Int) A B)) (fun k => ?_) (tP (fun h => c (by rw [hn]; exact h.1)))
   simp only [a6.l1]
   rw [if_neg hz, ew, if_neg c1, ei]
 | succ d ih =>
  intro j n a hj hn ha
  have h1 : j < (dg V[i]).length := by clear hn ha tP vG; omega
  have kH : (j : Int) < ((dg V[i]).length : Int) := by clear hn ha tP vG; omega
  have lu : (0 : Int) ≤ (j : Int) := by clear hn ha tP vG; omega
  have ej := fC j (by clear hn ha tP vG; omega)
  have R8 : j + 1 + d = (dg V[i]).length := by clear hn ha tP vG; omega
  have S_ : (dg V[i]).countP (fun z => decide (z ∈ own)) ≤ (dg V[i]).length := List.countP_le_length
  have hn0 : n ≤ 1000 := Nat.le_trans (Nat.le_trans (Nat.le_trans (Nat.le_add_right n _) (Nat.le_of_eq hn)) S_) hll
  clear S_
  rw [List.drop_eq_getElem_cons h1, List.countP_cons] at hn
  rw [List.drop_eq_getElem_cons h1] at ha
  simp only [lq] at ha
  have en := fC n (by clear hn ha tP vG; omega)
  refine Ev.step (f := fun k => (bu.f k own (dg V[i])[j]).bind fun RK => (if RK = true then (a6.l1 k P p x own (dg V[i]) ((n + 1 : Nat) : Int) a V (V.length : Int) (i : Int) (dg V[i]) ((dg V[i]).length : Int) ((j + 1 : Nat) : Int) A B) else (a6.l1 k P p x own (dg V[i]) (n : Int) (dg V[i])[j] V (V.length : Int) (i : Int) (dg V[i]) ((dg V[i]).length : Int) ((j + 1 : Nat) : Int) A B))) (fun k => ?_) (Ev.bind (ML own (dg V[i])[j] ho) ?_)
  ·simp only [a6.l1]
   rw [if_pos kH, if_pos lu, if_pos kH, b9 h1, ej, en]
  ·by_cases c : (dg V[i])[j] ∈ own
   ·rw [decide_eq_true c] at hn ⊢
    simp only [if_true] at hn ⊢
    rw [if_pos c] at ha
    exact ih (j + 1) (n + 1) a R8 (by rw [Nat.add_assoc, Nat.add_comm 1]; exact hn) ha
   ·rw [decide_eq_false c] at hn ⊢
    simp only [Bool.false_eq_true, if_false] at hn ⊢
    rw [if_neg c] at ha
    exact ih (j + 1) n _ R8 hn ha
theorem alh {q : List Int} {y : Int} (R_ : q ≠ p) (mN : ((dg q).countP fun z => decide (z ∈ own)) + 1 = own.length) (N2 : x ∉ dg q) (hc3 : lq own (dg q) (-1) = y) (O0 : ∀ c ∈ V, c ≠ p → ((dg c).countP fun z => decide (z ∈ own)) + 1 = own.length → x ∉ dg c → c = q) (d : Nat) :
  ∀ i : Nat, i + d = V.length → q ∈ V.drop i → Ev (fun k => a6.l0 k P p x own V (V.length : Int) (i : Int) A B) (q, y) := by
 induction d with
 | zero =>
  intro i hi hm
  rw [List.drop_eq_nil_of_le (by clear mN hm; omega)] at hm
  simp at hm
 | succ d ih =>
  intro i hi hm
  have h1 : i < V.length := by clear mN; omega
  have kH : (i : Int) < (V.length : Int) := by clear mN; omega
  have lu : (0 : Int) ≤ (i : Int) := by clear mN; omega
  have ei := fC i (by clear mN; omega)
  have zo := List.getElem_mem h1
  rw [List.drop_eq_getElem_cons h1] at hm
  have next : V[i] ≠ q → Ev (fun k => a6.l0 k P p x own V (V.length : Int) ((i + 1 : Nat) : Int) A B) (q, y) := fun fv => ih (i + 1) (by clear mN hm; omega) (by
   rcases List.mem_cons.1 hm with e | e
   ·exact absurd e.symm fv
   ·exact e)
  refine Ev.step (f := fun k => (b7.f k V[i] p).bind fun RJ => (if RJ = true then (a6.l0 k P p x own V (V.length : Int) ((i + 1 : Nat) : Int) A B) else ((a_.f k A B P V[i]).bind fun km => (a6.l1 k P p x own km 0 (-1) V (V.length : Int) (i : Int) km (km.length : Int) 0 A B)))) (fun k => ?_) (Ev.bind (SM V[i] p (Nat.le_trans (hp _ zo) (by decide))) ?_)
  ·simp only [a6.l0]
   rw [if_pos kH, if_pos lu, if_pos kH, oU h1, ei]
  ·by_cases c : V[i] = p
   ·rw [decide_eq_true c]
    simp only [if_true]
    exact next (fun e => R_ (e ▸ c))
   ·rw [decide_eq_false c]
    simp only [Bool.false_eq_true, if_false]
    refine Ev.bind (wV _ zo) ?_
    refine alg wV hV hp hl ho vo i h1 (q, y) (fun hn => next (fun e => hn (by rw [e]; exact ⟨mN, N2⟩))) (fun a1 a2 => ?_) (dg V[i]).length 0 0 (-1) (Nat.zero_add _) (by rw [List.drop_zero, Nat.zero_add]) (by rw [List.drop_zero])
    have e := O0 _ zo c a1 a2
    rw [e, hc3]
end
theorem G7 {A B M : List (List Int)} {P : Int} {V : List (List Int)} {dg : List Int → List Int} (arR : Ev (fun k => aW.f k A B P) M) (ael : Ev (fun k => aE.f k M) V) (wV : ∀ p ∈ V, Ev (fun k => a_.f k A B P p) (dg p)) (hV : V.length ≤ 1000) (hp : ∀ p ∈ V, p.length ≤ 1000) (hl : ∀ p ∈ V, (dg p).length ≤ 1000) (hnd : ∀ p ∈ V, (dg p).Nodup)
  {p q : List Int} {x y : Int} (hpV : p ∈ V) (hq : q ∈ V) (R_ : q ≠ p) (hx : x ∈ dg p) (hy : y ∉ dg p) (lS : ∀ z, z ∈ dg q ↔ (z ∈ dg p ∧ z ≠ x) ∨ z = y) (O0 : ∀ c ∈ V, c ≠ p → (∀ z ∈ dg p, z ≠ x → z ∈ dg c) → c = q) : Ev (fun k => a6.f k A B P p x) (q, y) := by
 have hxy : x ≠ y := fun e => hy (e ▸ hx)
 have E7 : ((dg p).erase x).length + 1 = (dg p).length := by
  have := List.length_pos_of_mem hx
  rw [List.length_erase_of_mem hx]; exact Nat.sub_add_cancel this
 have hem : ∀ z, z ∈ (dg p).erase x ↔ z ∈ dg p ∧ z ≠ x := fun z => by rw [(hnd p hpV).mem_erase_iff]; exact And.comm
 have n9 : ((dg p).erase x).Nodup := (hnd p hpV).erase _
 have hxq : x ∉ dg q := fun h => by
  rcases (lS x).1 h with e | e
  ·exact e.2 rfl
  ·exact hxy e
 have hcq : ((dg q).countP fun z => decide (z ∈ dg p)) + 1 = (dg p).length := by
  rw [List.countP_eq_length_filter]
  have fm : ∀ z, z ∈ ((dg q).filter fun z => decide (z ∈ dg p)) ↔ z ∈ (dg p).erase x := fun z => by
   rw [List.mem_filter, hem, lS, decide_eq_true_eq]
   constructor
   ·rintro ⟨h | h, h2⟩
    ·exact h
    ·exact absurd (h ▸ h2) hy
   ·intro h; exact ⟨.inl h, h.1⟩
  have l1 := Dn _ _ ((hnd q hq).filter _) (fun z hz => (fm z).1 hz)
  have l2 := Dn _ _ n9 (fun z hz => (fm z).2 hz)
  rw [Nat.le_antisymm l1 l2]; exact E7
 have ali : lq (dg p) (dg q) (-1) = y := by
  refine AR _ _ _ _ (fun z hz hn => ?_) (.inr ⟨y, (lS y).2 (.inr rfl), hy⟩)
  rcases (lS z).1 hz with e | e
  ·exact absurd e.1 hn
  ·exact e
 have h0 := alh (p := p) (x := x) (own := dg p) wV hV hp hl (hl p hpV) (List.length_pos_of_mem hx) R_ hcq hxq ali (fun c hc fv h1 h2 => by
  refine O0 c hc fv fun z hz hzx => ?_
  rw [List.countP_eq_length_filter] at h1
  have sm := mw ((dg c).filter fun z => decide (z ∈ dg p)) ((dg p).erase x) ((hnd c hc).filter _) (fun w hw => by
   obtain ⟨w1, w2⟩ := List.mem_filter.1 hw
   exact (hem w).2 ⟨of_decide_eq_true w2, fun e => h2 (e ▸ w1)⟩) (Nat.le_of_eq (Nat.succ.inj (E7.trans h1.symm))) z ((hem z).2 ⟨hz, hzx⟩)
  exact (List.mem_filter.1 sm).1) V.length 0 (Nat.zero_add _) (by rw [List.drop_zero]; exact hq)
 unfold a6.f
 exact Ev.bind (wV p hpV) (Ev.bind arR (Ev.bind ael h0))
end Go.Proofs.YtggiicplcglalaaGreat.GmAlg
end
