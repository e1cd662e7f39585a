/- Part of the proof that FnExactWalkSteps answers true. -/
import Derived.Deep.Matrix
import Derived.Test.YtggiicplcglalaaGreatQW21
section
namespace Go.Proofs.YtggiicplcglalaaGreat.GmAlg
open Go.RowKit YtggiicplcglalaaGreat.All YtggiicplcglalaaGreatW.PrintWords YtggiicplcglalaaGreatW.PrintLast YtggiicplcglalaaGreat.Eqs YtggiicplcglalaaGreat.GmDet YtggiicplcglalaaGreat.LH YtggiicplcglalaaGreat.GmFig YtggiicplcglalaaGreat.GmImp YtggiicplcglalaaGreat.GmFo YtggiicplcglalaaGreat.GmSpc YtggiicplcglalaaGreat.GmLab YtggiicplcglalaaGreat.GmEdg YtggiicplcglalaaGreat.Games YtggiicplcglalaaGreat.L1
set_option linter.unusedVariables false
set_option linter.unusedSimpArgs false
set_option linter.unusedSectionVars false
theorem Dp (F : Nat → H) (N : Nat) (p : List Int) (z : Int) : z ∈ lc F N p ↔ ∃ j : Nat, LH.tight F N (e6 p) j = true ∧ z = (j : Int) := by
 rw [ra]
 constructor
 ·rintro ⟨k, h1, h2, h3⟩
  exact ⟨k, by simp [LH.tight, h1, h2], h3⟩
 ·rintro ⟨k, h1, h2⟩
  simp [LH.tight] at h1
  exact ⟨k, h1.1, h1.2, h2⟩
theorem na (F : Nat → H) (N : Nat) (p : List Int) (j : Nat) : (j : Int) ∈ lc F N p ↔ LH.tight F N (e6 p) j = true := by
 rw [Dp]
 constructor
 ·rintro ⟨k, h1, h2⟩
  obtain rfl : j = k := Int.ofNat.inj h2
  exact h1
 ·intro h; exact ⟨j, h, rfl⟩
theorem CH (F : Nat → H) (N : Nat) (p : List Int) : (lc F N p).Nodup := (r_ F N p).imp fun {a b} h => by omega
theorem G8 {F : Nat → H} {N : Nat} {p q : List Int} {l y : Nat} (h : ∀ j, LH.tight F N (e6 q) j = true ↔ ((LH.tight F N (e6 p) j = true ∧ j ≠ l) ∨ j = y)) (z : Int) : z ∈ lc F N q ↔ (z ∈ lc F N p ∧ z ≠ (l : Int)) ∨ z = (y : Int) := by
 rw [Dp]
 constructor
 ·rintro ⟨j, h1, rfl⟩
  rcases (h j).1 h1 with ⟨a, b⟩ | e
  ·exact .inl ⟨(na F N p j).2 a, fun e => b (Int.ofNat.inj e)⟩
  ·exact .inr (by rw [e])
 ·rintro (⟨a, b⟩ | e)
  ·obtain ⟨j, h1, rfl⟩ := (Dp F N p z).1 a
   exact ⟨j, (h j).2 (.inl ⟨h1, fun e => b (by rw [e])⟩), rfl⟩
  ·exact ⟨y, (h y).2 (.inr rfl), e⟩
theorem G9 {F : Nat → H} {N : Nat} {p q : List Int} {l : Nat} (h : ∀ z ∈ lc F N p, z ≠ (l : Int) → z ∈ lc F N q) : ∀ j, LH.tight F N (e6 p) j = true → j ≠ l → LH.tight F N (e6 q) j = true := fun j h1 h2 =>
 (na F N q j).1 (h j ((na F N p j).2 h1) (fun e => h2 (Int.ofNat.inj e)))
section
variable {m n : Nat} (hm : d3 m) (hn : d3 n) {a b : List (List Int)} (ha : wN m n a) (hb : wN m n b) (h0 : (a.getD 0 []).length = n)
include hm hn ha hb h0
theorem alj : (V1 m n b).length ≤ 1000 ∧ (∀ p ∈ V1 m n b, p.length ≤ 1000) ∧ ∀ p ∈ V1 m n b, (vD m n b p).length ≤ 1000 := by
 have h3 : m ≤ 3 ∧ n ≤ 3 := by rcases hm with h | h | h <;> rcases hn with h' | h' | h' <;> omega
 refine ⟨Nat.le_trans (many1 hm hn ha hb h0) (by decide), fun p hp => ?_, fun p hp => ?_⟩
 ·rw [(W4 hm hn ha hb h0 hp).1]; omega
 ·exact Nat.le_trans (vC _ _ p) (by omega)
theorem alk : (V2 m n a).length ≤ 1000 ∧ (∀ p ∈ V2 m n a, p.length ≤ 1000) ∧ ∀ p ∈ V2 m n a, (xr m n a p).length ≤ 1000 := by
 have h3 : m ≤ 3 ∧ n ≤ 3 := by rcases hm with h | h | h <;> rcases hn with h' | h' | h' <;> omega
 refine ⟨Nat.le_trans (ZL hm hn ha hb h0) (by decide), fun p hp => ?_, fun p hp => ?_⟩
 ·rw [(W5 hm hn ha hb h0 hp).1]; omega
 ·exact Nat.le_trans (vC _ _ p) (by omega)
theorem alm (hr : Dl m n b = true) {p : List Int} (hp : p ∈ V1 m n b) {l : Nat} (hl : wP m n b p l = true) :
  Ev (fun k => a6.f k a b 1 p (l : Int)) ((wR m n b p l).1, ((wR m n b p l).2 : Int)) ∧ Ev (fun k => aN.f k (m : Int) (ji m (M1 n b)) p (l : Int)) ((wR m n b p l).1, ((wR m n b p l).2 : Int)) := by
 obtain ⟨q1, q2, q3, q4, q5⟩ := S6 hm hn ha hb h0 hr p hp l hl
 obtain ⟨v1, v2, v3⟩ := alj hm hn ha hb h0
 have hx : (l : Int) ∈ vD m n b p := (na _ _ _ _).2 hl
 have hy : ((wR m n b p l).2 : Int) ∉ vD m n b p := fun h => by
  have h2 : wP m n b p (wR m n b p l).2 = true := (na _ _ _ _).1 h
  rw [q3] at h2
  exact absurd h2 (by decide)
 have lS := G8 (F := FA m (M1 n b)) (N := m + n) (p := p) (q := (wR m n b p l).1) (l := l) (y := (wR m n b p l).2) q4
 have O0 : ∀ c ∈ V1 m n b, c ≠ p → (∀ z ∈ vD m n b p, z ≠ (l : Int) → z ∈ vD m n b c) → c = (wR m n b p l).1 := fun c hc fv hs => q5 c hc fv (G9 hs)
 exact ⟨G7 (Dj hm hn hb) (qh hm hn (j7 hb)) (fun c hc => GX hm hn ha hb h0 hc) v1 v2 v3 (fun c _ => CH _ _ c) hp q1 q2 hx hy lS O0,
  G6 (SS hm hn ha hb h0) (fun c hc => SV hm hn ha hb h0 hc _) v1 v2 v3 hp q1 q2 hy lS O0⟩
theorem aln (hr : BM m n a = true) {p : List Int} (hp : p ∈ V2 m n a) {l : Nat} (hl : wQ m n a p l = true) :
  Ev (fun k => a6.f k a b 2 p (l : Int)) ((wU m n a p l).1, ((wU m n a p l).2 : Int)) ∧ Ev (fun k => aN.f k (n : Int) (jj n (M2 a)) p (l : Int)) ((wU m n a p l).1, ((wU m n a p l).2 : Int)) := by
 obtain ⟨q1, q2, q3, q4, q5⟩ := S7 hm hn ha hb h0 hr p hp l hl
 obtain ⟨v1, v2, v3⟩ := alk hm hn ha hb h0
 have hx : (l : Int) ∈ xr m n a p := (na _ _ _ _).2 hl
 have hy : ((wU m n a p l).2 : Int) ∉ xr m n a p := fun h => by
  have h2 : wQ m n a p (wU m n a p l).2 = true := (na _ _ _ _).1 h
  rw [q3] at h2
  exact absurd h2 (by decide)
 have lS := G8 (F := FB n (M2 a)) (N := n + m) (p := p) (q := (wU m n a p l).1) (l := l) (y := (wU m n a p l).2) q4
 have O0 : ∀ c ∈ V2 m n a, c ≠ p → (∀ z ∈ xr m n a p, z ≠ (l : Int) → z ∈ xr m n a c) → c = (wU m n a p l).1 := fun c hc fv hs => q5 c hc fv (G9 hs)
 exact ⟨G7 (Dk hm hn ha) (qh hn hm (ir ha)) (fun c hc => GY hm hn ha hb h0 hc) v1 v2 v3 (fun c _ => CH _ _ c) hp q1 q2 hx hy lS O0,
  G6 (SU hm hn ha hb h0) (fun c hc => SX hm hn ha hb h0 hc _) v1 v2 v3 hp q1 q2 hy lS O0⟩
end
theorem Dq {a b : Nat} (h : a ≠ b) : ¬ (a : Int) = (b : Int) := fun e => h (Int.ofNat.inj e)
theorem w31 : wrap64 (3 - 1) = 2 := by rw [dC (by omega) (by omega)]; rfl
theorem w32 : wrap64 (3 - 2) = 1 := by rw [dC (by omega) (by omega)]; rfl
abbrev St := List Int × List Int × Nat × Bool
section
variable {m n : Nat} {a b : List (List Int)} {al : List Int → Nat → List Int × Nat} {am : List Int → Nat → List Int × Nat} {l s : Nat} {st : Nat → St} {L1 L2 : List bm} (MB : ∀ i, st (i + 1) = LH.step al am (st i)) (hs : s ≤ 801) (n9 : (st s).2.2.1 = l) (tP : ∀ i, 1 ≤ i → i < s → (st i).2.2.1 ≠ l)
include MB hs n9 tP
theorem O1 (h1 : ∀ i, i < s → (st i).2.2.2 = false → Ev (fun k => a6.f k a b 1 (st i).1 ((st i).2.2.1 : Int)) ((al (st i).1 (st i).2.2.1).1, ((al (st i).1 (st i).2.2.1).2 : Int))) (h2 : ∀ i, i < s → (st i).2.2.2 = true → Ev (fun k => a6.f k a b 2 (st i).2.1 ((st i).2.2.1 : Int)) ((am (st i).2.1 (st i).2.2.1).1, ((am (st i).2.1 (st i).2.2.1).2 : Int))) (d : Nat) :
  ∀ i : Nat, i + (d + 1) = s → Ev (fun k => aZ.l0 k (l : Int) (st i).1 (st i).2.1 (if (st i).2.2.2 = true then 2 else 1) ((st i).2.2.1 : Int) (i : Int) a b) ((st s).1, (st s).2.1, (s : Int)) := by
 induction d with
 | zero =>
  intro i hi
  have NX : s = i + 1 := by omega
  have ei := fC i (by omega)
  have e := MB i
  rw [← NX] at e
  have a1 := h1 i (by omega)
  have a2 := h2 i (by omega)
  rw [e] at n9 ⊢
  rw [NX]
  generalize st i = z at a1 a2 n9 ⊢
  obtain ⟨p, q, dr, t⟩ := z
  cases t
  ·simp only [LH.step, Bool.false_eq_true, if_false] at a1 n9 ⊢
   refine Ev.step (f := fun k => (a6.f k a b 1 p (dr : Int)).bind fun vH => (if vH.2 = (l : Int) then (some (vH.1, q, ((i + 1 : Nat) : Int))) else (aZ.l0 k (l : Int) vH.1 q 2 vH.2 ((i + 1 : Nat) : Int) a b))) (fun k => ?_) (Ev.bind (a1 trivial) ?_)
   ·simp only [aZ.l0]
    rw [if_pos trivial, ei, w31]
   ·simp only
    rw [n9]
    exact Ev.congr (fun k => if_pos rfl) (Ev.now _)
  ·simp only [LH.step, if_true] at a2 n9 ⊢
   refine Ev.step (f := fun k => (a6.f k a b 2 q (dr : Int)).bind fun vI => (if vI.2 = (l : Int) then (some (p, vI.1, ((i + 1 : Nat) : Int))) else (aZ.l0 k (l : Int) p vI.1 1 vI.2 ((i + 1 : Nat) : Int) a b))) (fun k => ?_) (Ev.bind (a2 trivial) ?_)
   ·simp only [aZ.l0]
    rw [if_neg (by decide), ei, w32]
   ·simp only
    rw [n9]
    exact Ev.congr (fun k => if_pos rfl) (Ev.now _)
 | succ d ih =>
  intro i hi
  have ei := fC i (by omega)
  have e := MB i
  have a1 := h1 i (by omega)
  have a2 := h2 i (by omega)
  have fv := tP (i + 1) (by omega) (by omega)
  have key := ih (i + 1) (by omega)
  rw [e] at fv key
  generalize st i = z at a1 a2 fv key ⊢
  obtain ⟨p, q, dr, t⟩ := z
  cases t
  ·simp only [LH.step, Bool.false_eq_true, if_false, if_true] at a1 fv key ⊢
   refine Ev.step (f := fun k => (a6.f k a b 1 p (dr : Int)).bind fun vH => (if vH.2 = (l : Int) then (some (vH.1, q, ((i + 1 : Nat) : Int))) else (aZ.l0 k (l : Int) vH.1 q 2 vH.2 ((i + 1 : Nat) : Int) a b))) (fun k => ?_) (Ev.bind (a1 trivial) ?_)
   ·simp only [aZ.l0]
    rw [if_pos trivial, ei, w31]
   ·simp only
    exact Ev.congr (fun k => if_neg (Dq fv)) key
  ·simp only [LH.step, Bool.false_eq_true, if_false, if_true] at a2 fv key ⊢
   refine Ev.step (f := fun k => (a6.f k a b 2 q (dr : Int)).bind fun vI => (if vI.2 = (l : Int) then (some (p, vI.1, ((i + 1 : Nat) : Int))) else (aZ.l0 k (l : Int) p vI.1 1 vI.2 ((i + 1 : Nat) : Int) a b))) (fun k => ?_) (Ev.bind (a2 trivial) ?_)
   ·simp only [aZ.l0]
    rw [if_neg (by decide), ei, w32]
   ·simp only
    exact Ev.congr (fun k => if_neg (Dq fv)) key
theorem O2 (h1 : ∀ i, i < s → (st i).2.2.2 = false → Ev (fun k => aN.f k (m : Int) L1 (st i).1 ((st i).2.2.1 : Int)) ((al (st i).1 (st i).2.2.1).1, ((al (st i).1 (st i).2.2.1).2 : Int))) (h2 : ∀ i, i < s → (st i).2.2.2 = true → Ev (fun k => aN.f k (n : Int) L2 (st i).2.1 ((st i).2.2.1 : Int)) ((am (st i).2.1 (st i).2.2.1).1, ((am (st i).2.1 (st i).2.2.1).2 : Int))) (d : Nat) :
  ∀ i : Nat, i + (d + 1) = s → Ev (fun k => aK.l0 k (l : Int) (m : Int) L1 (n : Int) L2 (st i).1 (st i).2.1 (st i).2.2.2 ((st i).2.2.1 : Int) ((i + 1 : Nat) : Int)) ((st s).1, (st s).2.1, (s : Int)) := by
 induction d with
 | zero =>
  intro i hi
  have NX : s = i + 1 := by omega
  have e := MB i
  rw [← NX] at e
  have a1 := h1 i (by omega)
  have a2 := h2 i (by omega)
  rw [e] at n9 ⊢
  rw [NX]
  generalize st i = z at a1 a2 n9 ⊢
  obtain ⟨p, q, dr, t⟩ := z
  cases t
  ·simp only [LH.step, Bool.false_eq_true, if_false] at a1 n9 ⊢
   refine Ev.step (f := fun k => (aN.f k (m : Int) L1 p (dr : Int)).bind fun r => (if r.2 = (l : Int) then (some (r.1, q, ((i + 1 : Nat) : Int))) else (if ((i + 1 : Nat) : Int) > 1000 then (some (r.1, q, ((i + 1 : Nat) : Int))) else (aK.l0 k (l : Int) (m : Int) L1 (n : Int) L2 r.1 q true r.2 (wrap64 (((i + 1 : Nat) : Int) + 1)))))) (fun k => ?_) (Ev.bind (a1 trivial) ?_)
   ·simp only [aK.l0]
    rw [if_neg (by decide)]
   ·simp only
    rw [n9]
    exact Ev.congr (fun k => if_pos rfl) (Ev.now _)
  ·simp only [LH.step, if_true] at a2 n9 ⊢
   refine Ev.step (f := fun k => (aN.f k (n : Int) L2 q (dr : Int)).bind fun r => (if r.2 = (l : Int) then (some (p, r.1, ((i + 1 : Nat) : Int))) else (if ((i + 1 : Nat) : Int) > 1000 then (some (p, r.1, ((i + 1 : Nat) : Int))) else (aK.l0 k (l : Int) (m : Int) L1 (n : Int) L2 p r.1 false r.2 (wrap64 (((i + 1 : Nat) : Int) + 1)))))) (fun k => ?_) (Ev.bind (a2 trivial) ?_)
   ·simp only [aK.l0]
    rw [if_pos trivial]
   ·simp only
    rw [n9]
    exact Ev.congr (fun k => if_pos rfl) (Ev.now _)
 | succ d ih =>
  intro i hi
  have ei := fC (i + 1) (by omega)
  have Rv : ¬ ((i + 1 : Nat) : Int) > 1000 := by omega
  have e := MB i
  have a1 := h1 i (by omega)
  have a2 := h2 i (by omega)
  have fv := tP (i + 1) (by omega) (by omega)
  have key := ih (i + 1) (by omega)
  rw [e] at fv key
  generalize st i = z at a1 a2 fv key ⊢
  obtain ⟨p, q, dr, t⟩ := z
  cases t
  ·simp only [LH.step, Bool.false_eq_true, if_false, if_true] at a1 fv key ⊢
   refine Ev.step (f := fun k => (aN.f k (m : Int) L1 p (dr : Int)).bind fun r => (if r.2 = (l : Int) then (some (r.1, q, ((i + 1 : Nat) : Int))) else (if ((i + 1 : Nat) : Int) > 1000 then (some (r.1, q, ((i + 1 : Nat) : Int))) else (aK.l0 k (l : Int) (m : Int) L1 (n : Int) L2 r.1 q true r.2 ((i + 1 + 1 : Nat) : Int))))) (fun k => ?_) (Ev.bind (a1 trivial) ?_)
   ·simp only [aK.l0]
    rw [if_neg (by decide), ei]
   ·simp only
    exact Ev.congr (fun k => (if_neg (Dq fv)).trans (if_neg Rv)) key
  ·simp only [LH.step, Bool.false_eq_true, if_false, if_true] at a2 fv key ⊢
   refine Ev.step (f := fun k => (aN.f k (n : Int) L2 q (dr : Int)).bind fun r => (if r.2 = (l : Int) then (some (p, r.1, ((i + 1 : Nat) : Int))) else (if ((i + 1 : Nat) : Int) > 1000 then (some (p, r.1, ((i + 1 : Nat) : Int))) else (aK.l0 k (l : Int) (m : Int) L1 (n : Int) L2 p r.1 false r.2 ((i + 1 + 1 : Nat) : Int))))) (fun k => ?_) (Ev.bind (a2 trivial) ?_)
   ·simp only [aK.l0]
    rw [if_pos trivial, ei]
   ·simp only
    exact Ev.congr (fun k => (if_neg (Dq fv)).trans (if_neg Rv)) key
end
theorem AS {m : Nat} (hm : d3 m) : (List.replicate (m + 1) (0 : Int)).set m 1 = origin m := by
 rcases hm with rfl | rfl | rfl <;> rfl
section
variable {m n : Nat} (hm : d3 m) (hn : d3 n) {a b : List (List Int)} (ha : wN m n a) (hb : wN m n b) (h0 : (a.getD 0 []).length = n)
include hm hn ha hb h0
theorem Sa (l : Nat) (r : List Int × List Int × Int) (h : Ev (fun k => aZ.l0 k (l : Int) (origin m) (origin n) (if decide (m ≤ l) = true then 2 else 1) (l : Int) 0 a b) r) : Ev (fun k => aZ.f k a b (l : Int)) r := by
 have GL : 1 ≤ m ∧ m ≤ 3 := by rcases hm with h | h | h <;> omega
 have yY : 1 ≤ n ∧ n ≤ 3 := by rcases hn with h | h | h <;> omega
 have er : aJ a 0 = a.getD 0 [] := rfl
 have e1 := fC m (by omega)
 have e2 := fC n (by omega)
 have z1 : (0 : Int) < (m : Int) := by omega
 have z2 : (0 : Int) ≤ ((m + 1 : Nat) : Int) := by omega
 have z3 : m + 1 ≤ 35184372088832 := by omega
 have z4 : (0 : Int) ≤ ((n + 1 : Nat) : Int) := by omega
 have z5 : n + 1 ≤ 35184372088832 := by omega
 have z6 : (0 : Int) ≤ (m : Int) := by omega
 have z7 : (m : Int) < ((m + 1 : Nat) : Int) := by omega
 have z8 : (0 : Int) ≤ (n : Int) := by omega
 have z9 : (n : Int) < ((n + 1 : Nat) : Int) := by omega
 refine Ev.congr (f := fun k => aZ.j0 k (l : Int) (origin m) (origin n) (if decide (m ≤ l) = true then 2 else 1) a b) (fun k => ?_) (Ev.step (fun k => by simp only [aZ.j0]) h)
 unfold aZ.f
 simp only [er, h0, ha.1, e1, e2, Int.toNat_natCast, Option.bind_some, List.length_replicate, if_pos z1, if_pos z2, if_pos z3, if_pos z4, if_pos z5, if_pos z6, if_pos z7, if_pos z8, if_pos z9, AS hm, AS hn]
 by_cases c : m ≤ l
 ·have c' : (l : Int) ≥ (m : Int) := by omega
  rw [if_pos c', decide_eq_true c]
  rfl
 ·have c' : ¬ (l : Int) ≥ (m : Int) := by omega
  rw [if_neg c', decide_eq_false c]
  rfl
theorem Sb (l : Nat) (r : List Int × List Int × Int) (h : Ev (fun k => aK.l0 k (l : Int) (m : Int) (ji m (M1 n b)) (n : Int) (jj n (M2 a)) (origin m) (origin n) (decide (m ≤ l)) (l : Int) 1) r) : Ev (fun k => aK.f k a b (l : Int)) r := by
 have GL : 1 ≤ m ∧ m ≤ 3 := by rcases hm with h | h | h <;> omega
 have yY : 1 ≤ n ∧ n ≤ 3 := by rcases hn with h | h | h <;> omega
 have er : aJ a 0 = a.getD 0 [] := rfl
 have z1 : (0 : Int) < (m : Int) := by omega
 have z2 : (0 : Int) ≤ (m : Int) := by omega
 have z3 : m ≤ 1000000 := by omega
 have z4 : (0 : Int) ≤ (n : Int) := by omega
 have z5 : n ≤ 1000000 := by omega
 have ed : decide ((m : Int) ≤ (l : Int)) = decide (m ≤ l) := by
  by_cases c : m ≤ l
  ·rw [decide_eq_true c, decide_eq_true (by omega)]
  ·rw [decide_eq_false c, decide_eq_false (by omega)]
 unfold aK.f
 refine Ev.bind (CC hm hn ha hb h0) (Ev.bind (CD hm hn ha hb h0) (Ev.congr (fun k => ?_) h))
 unfold dU.f dd.f
 simp only [er, h0, ha.1, Option.bind_some, Int.toNat_natCast, if_pos z1, if_pos z2, if_pos z3, if_pos z4, if_pos z5, ed]
 rfl
theorem aen (hr : (Dl m n b && BM m n a) = true) {l : Nat} (hl : l < m + n) : ∃ (p q : List Int) (s : Nat), s ≤ 801 ∧ p ∈ V1 m n b ∧ q ∈ V2 m n a ∧ p ≠ origin m ∧ q ≠ origin n ∧
  Ev (fun k => aZ.f k a b (l : Int)) (p, q, (s : Int)) ∧ Ev (fun k => aK.f k a b (l : Int)) (p, q, (s : Int)) := by
 obtain ⟨s, s1, s2, s3, s4, s5, s6, s7, s8, s9⟩ := walk hm hn ha hb h0 hr hl
 simp only [Bool.and_eq_true] at hr
 have MB : ∀ i, lR (wR m n b) (wU m n a) (GmEdg.start m n l) (i + 1) = LH.step (wR m n b) (wU m n a) (lR (wR m n b) (wU m n a) (GmEdg.start m n l) i) := fun i => rfl
 have w1 : ∀ i, i < s → (lR (wR m n b) (wU m n a) (GmEdg.start m n l) i).2.2.2 = false → _ := fun i hi ht => alm hm hn ha hb h0 hr.1 (s5 i hi).1 (l := (lR (wR m n b) (wU m n a) (GmEdg.start m n l) i).2.2.1) (by
  have := (s5 i hi).2.2
  rwa [ht, if_neg (by decide)] at this)
 have w2 : ∀ i, i < s → (lR (wR m n b) (wU m n a) (GmEdg.start m n l) i).2.2.2 = true → _ := fun i hi ht => aln hm hn ha hb h0 hr.2 (s5 i hi).2.1 (l := (lR (wR m n b) (wU m n a) (GmEdg.start m n l) i).2.2.1) (by
  have := (s5 i hi).2.2
  rwa [ht, if_pos rfl] at this)
 refine ⟨_, _, s, s2, s6, s7, s8, s9, Sa hm hn ha hb h0 l _ ?_, Sb hm hn ha hb h0 l _ ?_⟩
 ·exact O1 (st := lR (wR m n b) (wU m n a) (GmEdg.start m n l)) MB s2 s3 s4 (fun i hi ht => (w1 i hi ht).1) (fun i hi ht => (w2 i hi ht).1) (s - 1) 0 (by omega)
 ·exact O2 (st := lR (wR m n b) (wU m n a) (GmEdg.start m n l)) MB s2 s3 s4 (fun i hi ht => (w1 i hi ht).2) (fun i hi ht => (w2 i hi ht).2) (s - 1) 0 (by omega)
end
theorem G_ (a b : List (List Int)) (x : Int) (ha : Eqs.Small a) (hb : Eqs.Small b) :
  (Ev (fun k => bo.f k a b x) false ∧ Ev (fun k => bn.f k a b x) false) ∨
  (Ev (fun k => bo.f k a b x) true ∧ Ev (fun k => bn.f k a b x) true ∧ ∃ (m n l : Nat) (_ : d3 m) (_ : d3 n) (_ : wN m n a) (_ : wN m n b), (a.getD 0 []).length = n ∧ (Dl m n b && BM m n a) = true ∧ l < m + n ∧ x = (l : Int)) := by
 have hg : Ev (fun k => cA.f k a b) (Fi a b) := ⟨2097201, fun k hk => OB a b ha hb k (by omega)⟩
 cases c : Fi a b with
 | false =>
  rw [c] at hg
  refine .inl ⟨?_, ?_⟩
  ·unfold bo.f
   exact Ev.bind hg (Ev.now _)
  ·unfold bn.f
   rw [Bn, c]
   exact Ev.now _
 | true =>
  rw [c] at hg
  obtain ⟨m, n, hm, hn, ta, tb, h0⟩ := JM c
  have GL : 1 ≤ m ∧ m ≤ 3 := by rcases hm with h | h | h <;> omega
  have yY : 1 ≤ n ∧ n ≤ 3 := by rcases hn with h | h | h <;> omega
  have er : aJ a 0 = a.getD 0 [] := rfl
  have z1 : (0 : Int) < (m : Int) := by omega
  have e1 : wrap64 ((m : Int) + (n : Int)) = (m : Int) + (n : Int) := dC (by omega) (by omega)
  have e2 : wrap64 ((m : Int) + (n : Int) - 1) = (m : Int) + (n : Int) - 1 := dC (by omega) (by omega)
  have es : ∀ (v : Bool), Ev (fun k => if qu 0 ((m : Int) + (n : Int) - 1) x = true then ((ab.f k a b).bind fun Ic => (some Ic)) else (some false)) v → Ev (fun k => bo.f k a b x) v := by
   intro v hv
   unfold bo.f
   refine Ev.bind hg (Ev.congr (fun k => ?_) hv)
   simp only [if_true, er, h0, ta.1, if_pos z1, e1, e2, yW, Option.bind_some]
  have ei : ∀ (v : Bool), Ev (fun k => if qu 0 ((m : Int) + (n : Int) - 1) x = true then ((cU.f k a b).bind fun Hl => (some Hl)) else (some false)) v → Ev (fun k => bn.f k a b x) v := by
   intro v hv
   refine Ev.congr (fun k => ?_) hv
   unfold bn.f
   rw [Bn, c]
   unfold dU.f dd.f gz.f
   simp only [if_true, er, h0, ta.1, if_pos z1, e1, e2, Option.bind_some]
   unfold qu
   by_cases c1 : 0 ≤ x
   ·rw [if_pos c1, decide_eq_true c1, Bool.true_and, Option.bind_some]
   ·rw [if_neg c1, decide_eq_false c1, Bool.false_and, Option.bind_some]
  by_cases cx : qu 0 ((m : Int) + (n : Int) - 1) x = true
  ·have hx : 0 ≤ x ∧ x ≤ (m : Int) + (n : Int) - 1 := by
    unfold qu at cx
    simp only [Bool.and_eq_true, decide_eq_true_eq] at cx
    exact cx
   cases cr : (Dl m n b && BM m n a) with
   | false =>
    have k1 := S0 hm hn ta tb h0
    have k2 := SZ hm hn ta tb h0
    rw [cr] at k1 k2
    refine .inl ⟨es false ?_, ei false ?_⟩
    ·simp only [if_pos cx]; exact Ev.bind k1 (Ev.now _)
    ·simp only [if_pos cx]; exact Ev.bind k2 (Ev.now _)
   | true =>
    have k1 := S0 hm hn ta tb h0
    have k2 := SZ hm hn ta tb h0
    rw [cr] at k1 k2
    refine .inr ⟨es true ?_, ei true ?_, m, n, x.toNat, hm, hn, ta, tb, h0, cr, by omega, by omega⟩
    ·simp only [if_pos cx]; exact Ev.bind k1 (Ev.now _)
    ·simp only [if_pos cx]; exact Ev.bind k2 (Ev.now _)
  ·refine .inl ⟨es false ?_, ei false ?_⟩
   ·simp only [if_neg cx]; exact Ev.now _
   ·simp only [if_neg cx]; exact Ev.now _
end Go.Proofs.YtggiicplcglalaaGreat.GmAlg
end
section
namespace Go.Proofs.YtggiicplcglalaaGreat.Eqs
open Go.RowKit YtggiicplcglalaaGreat.All YtggiicplcglalaaGreatW.PrintWords YtggiicplcglalaaGreatW.PrintLast
theorem aeo (ls : List (List Int)) (hm : ∀ l ∈ ls, l.length ≤ maxLen) (hl : ls.length ≤ maxLen) (d : Nat) : ∀ (k i : Nat) (left : Int), i + d = ls.length → d < k → 0 ≤ left → left ≤ 1048576 →
  ∃ r, bU.l0 k ls left i = some r ∧ r ≤ 1048576 ∧ (0 ≤ r → ∀ j, i ≤ j → j < ls.length → (ls.getD j []).length ≤ 1048576) := by
 induction d with
 | zero =>
  intro k i left hi hk h0 h1
  obtain ⟨k, rfl⟩ : ∃ m, k = m + 1 := ⟨k - 1, by omega⟩
  simp only [bU.l0]
  rw [if_neg (by omega)]
  exact ⟨left, rfl, h1, fun _ j h2 h3 => by omega⟩
 | succ d ih =>
  intro k i left hi hk h0 h1
  obtain ⟨k, rfl⟩ : ∃ m, k = m + 1 := ⟨k - 1, by omega⟩
  simp only [bU.l0]
  unfold maxLen at hm hl
  have e1 : ((i : Int) < (ls.length : Int)) = True := eq_true (by omega)
  have e2 : ((0 : Int) ≤ (i : Int)) = True := eq_true (by omega)
  have e3 : wrap64 ((i : Int) + 1) = ((i + 1 : Nat) : Int) := dC (by omega) (by omega)
  simp only [e1, e2, e3, if_true]
  have hx := hm _ (ic (ls := ls) (i := i) (by omega))
  rw [show aJ ls (i : Int) = ls.getD i [] from rfl]
  unfold ke.f
  have e4 : wrap64 (left - ((ls.getD i []).length : Int)) = left - ((ls.getD i []).length : Int) := dC (by omega) (by omega)
  rw [e4]
  by_cases h : left - ((ls.getD i []).length : Int) < 0
  ·rw [if_pos h]
   exact ⟨-1, rfl, by omega, fun h => by omega⟩
  ·rw [if_neg h]
   simp only [Option.bind_some]
   rw [if_neg h]
   obtain ⟨r, hr, hb, hj⟩ := ih k (i + 1) (left - ((ls.getD i []).length : Int)) (by omega) (by omega) (by omega) (by omega)
   refine ⟨r, hr, hb, fun h0 j h2 h3 => ?_⟩
   by_cases e : j = i
   ·subst e; omega
   ·exact hj h0 j (by omega) h3
theorem ZM (ls : List (List Int)) (hl : ls.length ≤ maxLen) (hm : ∀ l ∈ ls, l.length ≤ maxLen) (left : Int) (h0 : 0 ≤ left) (h1 : left ≤ 1048576) : ∃ r, r ≤ 1048576 ∧ (0 ≤ r → Small ls) ∧ ∀ k, 1048577 < k → bU.f k ls left = some r := by
 have E1 := hl
 unfold maxLen at E1
 have hw : wrap64 (left - (ls.length : Int)) = left - (ls.length : Int) := dC (by omega) (by omega)
 by_cases h : left - (ls.length : Int) < 0
 ·refine ⟨-1, by omega, fun h => by omega, fun k _ => ?_⟩
  unfold bU.f
  rw [hw, if_pos h]
 ·obtain ⟨r, hr, hb, hj⟩ := aeo ls hm hl ls.length 1048578 0 (left - (ls.length : Int)) (by omega) (by omega) (by omega) (by omega)
  have key : bU.f 1048578 ls left = some r := by
   unfold bU.f
   rw [hw, if_neg h]
   exact hr
  refine ⟨r, hb, fun h0 => ⟨by omega, fun l E1 => ?_⟩, fun k hk => NH (bU.mono ls left) (show 1048578 ≤ k by omega) key⟩
  obtain ⟨j, tg, rfl⟩ := List.mem_iff_getElem.1 E1
  have := hj h0 j (Nat.zero_le _) tg
  simpa [List.getD, List.getElem?_eq_getElem tg] using this
theorem O3 (a b : List (List Int)) (ha : a.length ≤ maxLen) (hb : b.length ≤ maxLen) (hma : ∀ l ∈ a, l.length ≤ maxLen) (hmb : ∀ l ∈ b, l.length ≤ maxLen) : ∃ r, (0 ≤ r → Small a ∧ Small b) ∧ ∀ k, 1048577 < k → eP.f k a b 1048576 = some r := by
 obtain ⟨r, h1, h2, h3⟩ := ZM a ha hma 1048576 (by omega) (by omega)
 by_cases h : r < 0
 ·refine ⟨-1, fun h => by omega, fun k hk => ?_⟩
  unfold eP.f
  rw [h3 k hk, Option.bind_some, if_pos h]
 ·obtain ⟨r', h1', h2', h3'⟩ := ZM b hb hmb r (by omega) h1
  by_cases h' : r' < 0
  ·refine ⟨-1, fun h => by omega, fun k hk => ?_⟩
   unfold eP.f
   rw [h3 k hk, Option.bind_some, if_neg h, h3' k hk, Option.bind_some, if_pos h']
  ·refine ⟨r', fun _ => ⟨h2 (by omega), h2' (by omega)⟩, fun k hk => ?_⟩
   unfold eP.f
   rw [h3 k hk, Option.bind_some, if_neg h, h3' k hk, Option.bind_some, if_neg h']
theorem CI (a b : List (List Int)) (ha : Small a) (hb : Small b) (k : Nat) (hk : 2097155 < k) : df.f k a b = some (a, b) := by
 unfold df.f
 rw [zi a ha k hk, Option.bind_some, zi b hb k hk, Option.bind_some]
theorem Ga (a b : List (List Int)) (ha : Small a) (hb : Small b) (k : Nat) (hk : 2097155 < k) : fQ.f k a b a b = some true := by
 unfold fQ.f
 rw [uh a ha k hk, Option.bind_some, if_pos rfl, uh b hb k hk, Option.bind_some, if_pos rfl]
end Go.Proofs.YtggiicplcglalaaGreat.Eqs
end
section
namespace Go.Proofs.YtggiicplcglalaaGreat.RowsIn
open Go.RowKit YtggiicplcglalaaGreat.All YtggiicplcglalaaGreatW.PrintWords YtggiicplcglalaaGreatW.PrintLast
open Go.Deep
theorem alo {w : World} {A : Option Addr} {n : Nat} {Z : List Int} (hz : n ≤ Z.length) (hn : n ≤ maxLen) (Rx : A = none → n = 0) (hc : ∀ a', A = some a' → ∀ c, c < n → w.cell? (a'.add c) = some (.int .i64 (Z.getD c 0))) : Kd.C (Kd.int .i64) w A n (Z.take n) := by
 refine ⟨by simp; omega, hn, fun h0 => ?_⟩
 cases A with
 | none => exact absurd (Rx rfl) (by omega)
 | some a =>
  refine ⟨a, rfl, fun j p hp => ⟨[.int .i64 p], rfl, rfl, fun i u hu => ?_⟩⟩
  have hj : j < n := by
   have := (List.getElem?_eq_some_iff.1 hp).1
   simp at this; omega
  have hi : i = 0 := by
   cases i with
   | zero => rfl
   | succ i => simp at hu
  subst hi
  have : p = Z.getD j 0 := by
   rw [List.getElem?_take_of_lt hj] at hp
   simp [List.getD, hp]
  subst this
  obtain rfl : Value.int .i64 (Z.getD j 0) = u := by simpa using hu
  have := hc a rfl j hj
  rwa [show (Kd.int .i64).sz = 1 from rfl, Nat.mul_one, Nat.add_zero]
def Gb (w : World) (A : Option Addr) (len cap : Nat) (ls : List (List Int)) : Prop :=
 len = ls.length ∧ Kd.C (Kd.slice 3 (Kd.int .i64)) w A ls.length ls ∧ ls.length ≤ cap ∧ ls.length ≤ maxLen ∧ (∀ l ∈ ls, l.length ≤ maxLen) ∧ ∀ l ∈ ls, ∀ x ∈ l, (Lit.int .i64 x).wf = true
theorem AT {H : Type} {enc : TypeId × Value → H} {w : World} {base : Nat} {dF : Nat} {cs : List Value} {x : DataW H × List MemPlace}
  (h : DataW.trod enc Tryz.prog w base (fun _ => true) true dF 22 cs = some x) : ∃ (a : Option Addr) (len cap : Nat) (ls : List (List Int)), cs = [.slice a len cap] ∧ Gb w a len cap ls := by
 rcases open_int_rows Tryz.underlying22 Tryz.underlying40 Tryz.underlying3 (by kernel_rfl) (by kernel_rfl) h with ⟨rfl, _⟩ | ⟨a, len, cap, A, L, C, Z, rfl, _, hl, hm, _, hr⟩
 ·exact ⟨none, 0, 0, [], rfl, rfl, ⟨rfl, by simp, fun h => absurd h (by simp)⟩, by simp, by simp, by simp, by simp⟩
 ·have hlen : ((List.range len).map fun r => (Z r).take (L r)).length = len := by simp
  refine ⟨some a, len, cap, (List.range len).map fun r => (Z r).take (L r), rfl, hlen.symm, ?_, by rw [hlen]; exact hl, by rw [hlen]; omega, ?_, ?_⟩
  ·rw [hlen]
   refine ⟨hlen, by unfold maxLen at hm; omega, fun _ => ⟨a, rfl, fun j p hp => ?_⟩⟩
   have hj : j < len := by
    have := (List.getElem?_eq_some_iff.1 hp).1
    simpa using this
   obtain rfl : (Z j).take (L j) = p := by simpa [List.getElem?_map, List.getElem?_range hj] using hp
   obtain ⟨mU, h1, h2, h3, _, h5, h6⟩ := hr j (by omega)
   have hlj : ((Z j).take (L j)).length = L j := by simp; omega
   refine ⟨[.slice (A j) (L j) (C j)], rfl, ⟨A j, C j, by rw [hlj], by rw [hlj]; exact h1, ?_⟩, fun i u hu => ?_⟩
   ·rw [hlj]
    exact alo (by omega) (by omega) (fun e => by have := h5 e; omega) (fun a' e c hc => (h6 a' e).2 c (by omega))
   ·have hi : i = 0 := by
     cases i with
     | zero => rfl
     | succ i => simp at hu
    subst hi
    obtain rfl : Value.slice (A j) (L j) (C j) = u := by simpa using hu
    rwa [show (Kd.slice 3 (Kd.int .i64)).sz = 1 from rfl, Nat.mul_one, Nat.add_zero]
  ·intro l E1
   obtain ⟨r, hr', rfl⟩ := List.mem_map.1 E1
   obtain ⟨_, h1, h2, h3, _⟩ := hr r (by have := List.mem_range.1 hr'; omega)
   simp; omega
  ·intro l E1 n hn
   obtain ⟨r, hr', rfl⟩ := List.mem_map.1 E1
   obtain ⟨_, _, _, _, h4, _⟩ := hr r (by have := List.mem_range.1 hr'; omega)
   exact h4 n (List.mem_of_mem_take hn)
theorem O4 {H : Type} {enc : TypeId × Value → H} {w : World} {base : Nat} {t : TypeId} {f0 f1 : Field} {cs : Array Value} {d : DataW H} {ps : List MemPlace} (ht : Tryz.prog.underlying t = some (.struct #[f0, f1])) (e0 : f0.type = 22) (e1 : f1.type = 22) (o0 : f0.offset = 0) (o1 : f1.offset = 1) (hc : Tryz.prog.cellsOf t = 2) (hs : Tryz.prog.cellsOf 22 = 1)
  (h : DataW.Trod enc Tryz.prog w base (fun _ => true) true t (.agg cs) d ps) : ∃ (a : Option Addr) (len cap : Nat) (ls : List (List Int)) (b : Option Addr) (W_ Wa : Nat) (ms : List (List Int)), cs = #[.slice a len cap, .slice b W_ Wa] ∧ Gb w a len cap ls ∧ Gb w b W_ Wa ms := by
 obtain ⟨dF, hf⟩ := h
 obtain ⟨y0, y1, n, _, hl, h0, h1⟩ := Go.ChangeShapes.trod_struct2 ht hf
 rw [e0, o0, hs] at h0
 rw [e1, o1, hs] at h1
 obtain ⟨a, len, cap, ls, ea, L0⟩ := AT h0
 obtain ⟨b, W_, Wa, ms, eb, L1⟩ := AT h1
 refine ⟨a, len, cap, ls, b, W_, Wa, ms, ?_, L0, L1⟩
 rw [hc] at hl
 simp only [Value.cells] at hl ea eb
 apply Array.toList_inj.mp
 match E0 : cs.toList, hl with
 | [x, y], _ =>
  rw [E0] at ea eb
  simp at ea eb
  subst ea eb
  rfl
end Go.Proofs.YtggiicplcglalaaGreat.RowsIn
end
section
namespace Go.Proofs.YtggiicplcglalaaGreat.Pure
open Go.RowKit YtggiicplcglalaaGreat.All YtggiicplcglalaaGreat.Eqs YtggiicplcglalaaGreat.GmAlg YtggiicplcglalaaGreat.RowsIn YtggiicplcglalaaGreatW.PrintWords YtggiicplcglalaaGreatW.PrintLast
theorem AU (a b : List (List Int)) (x : Int) (ha : Eqs.Small a) (hb : Eqs.Small b) : ∃ r : Int × Bool, Ev (fun k => dR.f k a b x) r ∧ Ev (fun k => dQ.f k a b x) r := by
 rcases G_ a b x ha hb with ⟨h1, h2⟩ | ⟨h1, h2, m, n, l, hm, hn, ta, tb, h0, hr, hl, rfl⟩
 ·refine ⟨(0, false), ?_, ?_⟩
  ·unfold dR.f
   exact Ev.bind h1 (Ev.now _)
  ·unfold dQ.f
   exact Ev.bind h2 (Ev.now _)
 ·obtain ⟨p, q, s, _, _, _, _, _, e1, e2⟩ := aen hm hn ta tb h0 hr hl
  refine ⟨((s : Int), true), ?_, ?_⟩
  ·unfold dR.f
   exact Ev.bind h1 (Ev.bind e1 (Ev.now _))
  ·unfold dQ.f
   exact Ev.bind h2 (Ev.bind e2 (Ev.now _))
theorem BN (a b : List (List Int)) (x : Int) (ha : a.length ≤ maxLen) (hb : b.length ≤ maxLen) (hma : ∀ l ∈ a, l.length ≤ maxLen) (hmb : ∀ l ∈ b, l.length ≤ maxLen) : ∃ k, ax.f k a b x = some true := by
 obtain ⟨r, hs, hr⟩ := O3 a b ha hb hma hmb
 by_cases h : r < 0
 ·exact ⟨4000000, by unfold ax.f; rw [hr _ (by omega), Option.bind_some, if_pos h]⟩
 obtain ⟨h1, h2⟩ := hs (by omega)
 obtain ⟨p, ⟨K1, e1⟩, ⟨K2, e2⟩⟩ := AU a b x h1 h2
 refine ⟨K1 + K2 + 4000001, ?_⟩
 have e1' := e1 (K1 + K2 + 4000001) (by omega)
 have e2' := e2 (K1 + K2 + 4000001) (by omega)
 have hq : 4000000 < K1 + K2 + 4000001 := by omega
 clear e1 e2
 generalize K1 + K2 + 4000001 = q at e1' e2' hq
 have e1 : dR.f q a b x = some p := e1'
 have e2 : dQ.f q a b x = some p := e2'
 unfold ax.f
 rw [hr _ (by omega), Option.bind_some, if_neg h, CI a b h1 h2 _ (by omega)]
 simp only [Option.bind_some]
 rw [e1, Option.bind_some, e2, Option.bind_some, if_pos rfl]
 obtain ⟨q, rfl⟩ : ∃ m, q = m + 1 := ⟨q - 1, by omega⟩
 simp only [bne_self_eq_false, ax.j0, Bool.false_eq_true, if_false]
 rw [CI a b h1 h2 _ (by omega)]
 simp only [Option.bind_some]
 rw [Ga a b h1 h2 _ (by omega)]
 rfl
theorem FnExactWalkSteps (A0 : Option Addr) (Wb Sc : Nat) (l0 : List (List Int)) (B0 : Option Addr) (MN Gc : Nat) (m0 : List (List Int)) (a1 : Int) (w : World) (H0 : Gb w A0 Wb Sc l0) (J0 : Gb w B0 MN Gc m0) (_ : (Lit.int .i64 a1).wf = true) :
  Calls Tryz.prog 6 #[.agg #[.slice A0 Wb Sc, .slice B0 MN Gc], .int .i64 a1] w fun e w' => e = .returned (.bool true) ∧ Below w.heap.size w w' := by
 obtain ⟨rfl, nn, mN, hm1, arS, _⟩ := H0
 obtain ⟨rfl, Ai, N2, hm2, arT, _⟩ := J0
 obtain ⟨k, hk⟩ := BN l0 m0 a1 hm1 hm2 arS arT
 exact ax.calls k A0 Sc l0 B0 Gc m0 a1 true w nn mN Ai N2 hk
end Go.Proofs.YtggiicplcglalaaGreat.Pure
end
