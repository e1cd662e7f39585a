/- Part of the proof that FnExactWalkSteps answers true. -/
import Derived.Test.YtggiicplcglalaaGreatQW18
section
namespace Go.Proofs.YtggiicplcglalaaGreat.LH
set_option linter.unusedSectionVars false
set_option autoImplicit true
set_option linter.unusedVariables false
def e6 : List Int → H
 | [a, d] => (a, 0, 0, d)
 | [a, b, d] => (a, b, 0, d)
 | [a, b, c, d] => (a, b, c, d)
 | _ => (0, 0, 0, 0)
def fJ : Nat → H
 | 0 => (1, 0, 0, 0)
 | 1 => (0, 1, 0, 0)
 | _ => (0, 0, 1, 0)
def mG : Nat → List H
 | 1 => [fJ 1, fJ 2]
 | 2 => [fJ 2]
 | _ => []
def xn (F : Nat → H) : List Nat → Int
 | [a] => fs (F a) (fJ 1) (fJ 2)
 | [a, b] => fs (F a) (F b) (fJ 2)
 | [a, b, c] => fs (F a) (F b) (F c)
 | _ => 0
def eX (F : Nat → H) (N dim : Nat) (p : List Int) : Prop :=
 p.length = dim + 1 ∧ 0 < (e6 p).2.2.2 ∧ l_ (e6 p) = 1 ∧ (∀ k, k < N → 0 ≤ ev (F k) (e6 p)) ∧
 ∃ S : List Nat, S.length = dim ∧ (∀ k ∈ S, k < N ∧ ev (F k) (e6 p) = 0) ∧ xn F S ≠ 0
def Bounded (F : Nat → H) (N dim : Nat) : Prop := ∀ x : H, x.2.2.2 = 0 → (∀ f ∈ mG dim, ev f x = 0) → (∀ k, k < N → 0 ≤ ev (F k) x) → x = (0, 0, 0, 0)
theorem gh (a b c : H) : fs a b c = fs b c a := by simp only [fs]; grind
theorem Bq (a b c : H) : fs a b c = - fs a c b := by simp only [fs]; grind
theorem sF (a b : H) : fs a a b = 0 := by simp only [fs]; grind
theorem uk {α : Type} : ∀ {S : List α}, S.length = 1 → ∃ a, S = [a]
 | [a], _ => ⟨a, rfl⟩
 | [], h => by simp at h
 | a :: b :: S, h => by simp at h
theorem mR {α : Type} : ∀ {S : List α}, S.length = 2 → ∃ a b, S = [a, b]
 | [a, b], _ => ⟨a, b, rfl⟩
 | [], h => by simp at h
 | [a], h => by simp at h
 | a :: b :: c :: S, h => by simp at h
theorem lQ {α : Type} : ∀ {S : List α}, S.length = 3 → ∃ a b c, S = [a, b, c]
 | [a, b, c], _ => ⟨a, b, c, rfl⟩
 | [], h => by simp at h
 | [a], h => by simp at h
 | [a, b], h => by simp at h
 | a :: b :: c :: d :: S, h => by simp at h
theorem Fm {α : Type} {S : List α} (h : S.length = 4) : ∃ a b c d, S = [a, b, c, d] := by
 cases S with
 | nil => simp at h
 | cons a S =>
  obtain ⟨b, c, d, rfl⟩ := lQ (S := S) (by simpa using h)
  exact ⟨a, b, c, d, rfl⟩
theorem q_ {F : Nat → H} {dim : Nat} (hd : dim = 1 ∨ dim = 2 ∨ dim = 3) {S : List Nat} (hS : S.length = dim) (h : xn F S ≠ 0) : S.Nodup := by
 rcases hd with rfl | rfl | rfl
 ·obtain ⟨a, rfl⟩ := uk hS; simp
 ·obtain ⟨a, b, rfl⟩ := mR hS
  simp only [List.nodup_cons, List.mem_singleton, List.not_mem_nil, not_false_eq_true, List.nodup_nil, and_true]
  intro e; subst e
  exact h (sF _ _)
 ·obtain ⟨a, b, c, rfl⟩ := lQ hS
  have h1 : a ≠ b := by intro e; subst e; exact h (sF _ _)
  have h2 : b ≠ c := by intro e; subst e; exact h (by show fs _ _ _ = 0; rw [gh]; exact sF _ _)
  have h3 : a ≠ c := by intro e; subst e; exact h (by show fs _ _ _ = 0; rw [gh, gh]; exact sF _ _)
  simp [h1, h2, h3]
theorem zn {dim : Nat} (hd : dim = 1 ∨ dim = 2 ∨ dim = 3) {p : List Int} (hp : p.length = dim + 1) : ∀ f ∈ mG dim, ev f (e6 p) = 0 := by
 rcases hd with rfl | rfl | rfl
 ·obtain ⟨a, b, rfl⟩ := mR hp; simp [mG, e6, ev, fJ]
 ·obtain ⟨a, b, c, rfl⟩ := lQ hp; simp [mG, e6, ev, fJ]
 ·simp [mG]
theorem D2 {dim : Nat} (hd : dim = 1 ∨ dim = 2 ∨ dim = 3) {p q : List Int} (hp : p.length = dim + 1) (hq : q.length = dim + 1) (e : e6 p = e6 q) : p = q := by
 rcases hd with rfl | rfl | rfl
 ·obtain ⟨a, b, rfl⟩ := mR hp; obtain ⟨a', b', rfl⟩ := mR hq; simp [e6] at e; simp [e]
 ·obtain ⟨a, b, c, rfl⟩ := lQ hp; obtain ⟨a', b', c', rfl⟩ := lQ hq; simp [e6] at e; simp [e]
 ·obtain ⟨a, b, c, d, rfl⟩ := Fm hp; obtain ⟨a', b', c', d', rfl⟩ := Fm hq; simp [e6] at e; simp [e]
theorem Rb {dim : Nat} (hd : dim = 1 ∨ dim = 2 ∨ dim = 3) (q : H) (h : ∀ f ∈ mG dim, ev f q = 0) : ∃ p : List Int, p.length = dim + 1 ∧ e6 p = q := by
 obtain ⟨q1, q2, q3, q4⟩ := q
 rcases hd with rfl | rfl | rfl
 ·have a := h (fJ 1) (by simp [mG])
  have b := h (fJ 2) (by simp [mG])
  simp [ev, fJ] at a b
  exact ⟨[q1, q4], rfl, by simp [e6, a, b]⟩
 ·have b := h (fJ 2) (by simp [mG])
  simp [ev, fJ] at b
  exact ⟨[q1, q2, q4], rfl, by simp [e6, b]⟩
 ·exact ⟨[q1, q2, q3, q4], rfl, rfl⟩
theorem sx {F : Nat → H} {N dim : Nat} (hd : dim = 1 ∨ dim = 2 ∨ dim = 3) {S : List Nat} (hS : S.length = dim) (mQ : xn F S ≠ 0) {p q : List Int} (hp : p.length = dim + 1) (hq : q.length = dim + 1) (pd : 0 < (e6 p).2.2.2) (qd : 0 < (e6 q).2.2.2) (pg : l_ (e6 p) = 1) (qg : l_ (e6 q) = 1)
  (pS : ∀ k ∈ S, ev (F k) (e6 p) = 0) (qS : ∀ k ∈ S, ev (F k) (e6 q) = 0) : p = q := by
 apply D2 hd hp hq
 have dp := zn hd hp
 have dq := zn hd hq
 rcases hd with rfl | rfl | rfl
 ·obtain ⟨a, rfl⟩ := uk hS
  exact uj mQ pd qd pg qg (pS a (by simp)) (dp _ (by simp [mG])) (dp _ (by simp [mG])) (qS a (by simp)) (dq _ (by simp [mG])) (dq _ (by simp [mG]))
 ·obtain ⟨a, b, rfl⟩ := mR hS
  exact uj mQ pd qd pg qg (pS a (by simp)) (pS b (by simp)) (dp _ (by simp [mG])) (qS a (by simp)) (qS b (by simp)) (dq _ (by simp [mG]))
 ·obtain ⟨a, b, c, rfl⟩ := lQ hS
  exact uj mQ pd qd pg qg (pS a (by simp)) (pS b (by simp)) (pS c (by simp)) (qS a (by simp)) (qS b (by simp)) (qS c (by simp))
theorem akq {F : Nat → H} {dim : Nat} (hd : dim = 1 ∨ dim = 2 ∨ dim = 3) {S : List Nat} (hS : S.length = dim) (mQ : xn F S ≠ 0) {l : Nat} (hl : l ∈ S) :
  ∃ f g : H, fs f g (F l) ≠ 0 ∧ (∀ x : H, (ev f x = 0 ∧ ev g x = 0) ↔ ((∀ f ∈ mG dim, ev f x = 0) ∧ ∀ k ∈ S, k ≠ l → ev (F k) x = 0)) ∧
   ∀ k, fs f g (F k) ≠ 0 → ∃ S' : List Nat, S'.length = dim ∧ (∀ j ∈ S', j = k ∨ (j ∈ S ∧ j ≠ l)) ∧ xn F S' ≠ 0 := by
 have hn := q_ hd hS mQ
 rcases hd with rfl | rfl | rfl
 ·obtain ⟨a, rfl⟩ := uk hS
  have e : l = a := by simpa using hl
  subst e
  have xD : fs (F l) (fJ 1) (fJ 2) ≠ 0 := mQ
  refine ⟨fJ 1, fJ 2, by rw [← gh]; exact xD, fun x => ?_, fun k hk => ⟨[k], rfl, by simp, by show fs _ _ _ ≠ 0; rw [gh]; exact hk⟩⟩
  simp [mG]
 ·obtain ⟨a, b, rfl⟩ := mR hS
  have xD : fs (F a) (F b) (fJ 2) ≠ 0 := mQ
  have Lo : a ≠ b := by simpa using hn
  have e : l = a ∨ l = b := by simpa using hl
  rcases e with e | e
  ·subst e
   refine ⟨F b, fJ 2, by rw [← gh]; exact xD, fun x => ?_, fun k hk => ⟨[k, b], rfl, by simp [Lo.symm], by show fs _ _ _ ≠ 0; rw [gh]; exact hk⟩⟩
   simp [mG, Lo.symm]
   exact And.comm
  ·subst e
   refine ⟨fJ 2, F a, by rw [gh]; exact xD, fun x => ?_, fun k hk => ⟨[a, k], rfl, by simp [Lo], by show fs _ _ _ ≠ 0; rw [← gh]; exact hk⟩⟩
   simp [mG, Lo]
 ·obtain ⟨a, b, c, rfl⟩ := lQ hS
  have xD : fs (F a) (F b) (F c) ≠ 0 := mQ
  have fv : a ≠ b ∧ a ≠ c ∧ b ≠ c := by
   simp only [List.nodup_cons, List.mem_cons, List.not_mem_nil, or_false, not_or, List.nodup_nil, and_true, not_false_eq_true] at hn
   exact ⟨hn.1.1, hn.1.2, hn.2⟩
  obtain ⟨h1, h2, h3⟩ := fv
  have e : l = a ∨ l = b ∨ l = c := by simpa using hl
  rcases e with e | e | e
  ·subst e
   refine ⟨F b, F c, by rw [← gh]; exact xD, fun x => ?_, fun k hk => ⟨[k, b, c], rfl, by simp [h1.symm, h2.symm], by show fs _ _ _ ≠ 0; rw [gh]; exact hk⟩⟩
   simp [mG, h1.symm, h2.symm]
  ·subst e
   refine ⟨F c, F a, by rw [gh]; exact xD, fun x => ?_, fun k hk => ⟨[a, k, c], rfl, by simp [h1, h3.symm], by show fs _ _ _ ≠ 0; rw [← gh]; exact hk⟩⟩
   simp [mG, h1, h3.symm]
   exact And.comm
  ·subst e
   refine ⟨F a, F b, xD, fun x => ?_, fun k hk => ⟨[a, b, k], rfl, by simp [h2, h3], hk⟩⟩
   simp [mG, h2, h3]
theorem Iz {F : Nat → H} {N dim : Nat} (hd : dim = 1 ∨ dim = 2 ∨ dim = 3) (hB : Bounded F N dim) {V : List (List Int)} (hV : ∀ p, p ∈ V ↔ eX F N dim p) (Vp : ∀ p ∈ V, (jL F N (e6 p)).length = dim) :
  Ln F N (mG dim) dim (V.map e6) := by
 refine ⟨hB, ?_, ?_⟩
 ·intro x hx
  obtain ⟨p, hp, rfl⟩ := List.mem_map.mp hx
  obtain ⟨h1, h2, h3, h4, h5⟩ := (hV p).mp hp
  exact ⟨h2, h3, h4, zn hd h1, Vp p hp⟩
 ·intro x hx l hl
  obtain ⟨p, hp, rfl⟩ := List.mem_map.mp hx
  obtain ⟨h1, h2, h3, h4, S, hS, hS0, mQ⟩ := (hV p).mp hp
  have BG : ∀ k ∈ S, k ∈ jL F N (e6 p) := fun k hk => (iA F N).mpr (by simp [tight, hS0 k hk])
  have zo := mw S (jL F N (e6 p)) (q_ hd hS mQ) BG (by rw [Vp p hp, hS]; exact Nat.le_refl _)
  obtain ⟨f, g, k1, k2, k3⟩ := akq hd hS mQ (zo l ((iA F N).mpr hl))
  refine ⟨f, g, k1, fun x => ?_, ?_⟩
  ·rw [k2 x]
   constructor
   ·rintro ⟨a, b⟩
    exact ⟨a, fun k hk ht => b k (zo k ((iA F N).mpr ht)) hk⟩
   ·rintro ⟨a, b⟩
    exact ⟨a, fun k hk hkl => b k hkl ((iA F N).mp (BG k hk))⟩
  ·intro q qd qg qF qf qg2 k hk hk0 hdk
   obtain ⟨S', s1, s2, s3⟩ := k3 k hdk
   obtain ⟨a, b⟩ := (k2 q).mp ⟨qf, qg2⟩
   obtain ⟨p', Tl, rfl⟩ := Rb hd q a
   refine List.mem_map.mpr ⟨p', (hV p').mpr ⟨Tl, qd, qg, qF, S', s1, fun j hj => ?_, s3⟩, rfl⟩
   rcases s2 j hj with e | ⟨e1, e2⟩
   ·subst e; exact ⟨hk, hk0⟩
   ·exact ⟨(hS0 j e1).1, b j e1 e2⟩
abbrev Cd := List Int × Int
def pad (s : Int) : Cd → H
 | ([a], t) => (s * a, 0, 0, -(s * t))
 | ([a, b], t) => (s * a, s * b, 0, -(s * t))
 | ([a, b, c], t) => (s * a, s * b, s * c, -(s * t))
 | _ => (0, 0, 0, 0)
def ady (a b : List Int) : Int := match a, b with
 | [a1, a2], [b1, b2] => a1 * b2 - a2 * b1
 | _, _ => 0
def Rc (a b c : List Int) : Int := match a, b, c with
 | [a1, a2, a3], [b1, b2, b3], [c1, c2, c3] => a1 * (b2 * c3 - b3 * c2) - a2 * (b1 * c3 - b3 * c1) + a3 * (b1 * c2 - b2 * c1)
 | _, _, _ => 0
def fB : List (List Int) → Int
 | [[a]] => a
 | [a, b] => ady a b
 | [a, b, c] => Rc a b c
 | _ => 0
def jg (c : Nat) (S : List Cd) : List (List Int) := S.map fun x => x.1.set c x.2
def fc (S : List Cd) : List Int :=
 let d := fB (S.map (·.1))
 ((List.range S.length).map fun c => if d < 0 then -fB (jg c S) else fB (jg c S)) ++ [(d.natAbs : Int)]
theorem n3 (S : List Cd) : (fc S).length = S.length + 1 := by simp [fc]
theorem natAbs_neg {d : Int} (h : d < 0) : (d.natAbs : Int) = -d := by omega
theorem oR {d : Int} (h : ¬ d < 0) : (d.natAbs : Int) = d := by omega
theorem akr (a : Cd) (h : a.1.length = 1) (s : Int) (hs : s = 1 ∨ s = -1) :
  ev (pad s a) (e6 (fc [a])) = 0 ∧ fs (pad s a) (fJ 1) (fJ 2) = s * fB [a.1] := by
 obtain ⟨l, t⟩ := a
 obtain ⟨a1, rfl⟩ := uk h
 simp only [fc, fB, jg, List.length_cons, List.length_nil, List.range, List.range.loop, List.map_cons, List.map_nil, List.set_cons_zero, List.cons_append, List.nil_append, e6, pad, ev, fs, fJ]
 by_cases hd : a1 < 0
 ·rw [if_pos hd, natAbs_neg hd]; constructor <;> grind
 ·rw [if_neg hd, oR hd]; constructor <;> grind
theorem aks (a b : Cd) (ha : a.1.length = 2) (hb : b.1.length = 2) (s u : Int) :
  ev (pad s a) (e6 (fc [a, b])) = 0 ∧ ev (pad u b) (e6 (fc [a, b])) = 0 ∧ fs (pad s a) (pad u b) (fJ 2) = s * u * fB [a.1, b.1] := by
 obtain ⟨l, t⟩ := a
 obtain ⟨k, r⟩ := b
 obtain ⟨a1, a2, rfl⟩ := mR ha
 obtain ⟨b1, b2, rfl⟩ := mR hb
 simp only [fc, fB, ady, jg, List.length_cons, List.length_nil, List.range, List.range.loop, List.map_cons, List.map_nil, List.set_cons_zero, List.set_cons_succ, List.cons_append, List.nil_append, e6, pad, ev, fs, fJ]
 by_cases hd : a1 * b2 - a2 * b1 < 0
 ·simp only [if_pos hd, natAbs_neg hd]; refine ⟨?_, ?_, ?_⟩ <;> grind
 ·simp only [if_neg hd, oR hd]; refine ⟨?_, ?_, ?_⟩ <;> grind
theorem akt (a b c : Cd) (ha : a.1.length = 3) (hb : b.1.length = 3) (hc : c.1.length = 3) (s u v : Int) :
  ev (pad s a) (e6 (fc [a, b, c])) = 0 ∧ ev (pad u b) (e6 (fc [a, b, c])) = 0 ∧ ev (pad v c) (e6 (fc [a, b, c])) = 0 ∧ fs (pad s a) (pad u b) (pad v c) = s * u * v * fB [a.1, b.1, c.1] := by
 obtain ⟨l, t⟩ := a
 obtain ⟨k, r⟩ := b
 obtain ⟨m, q⟩ := c
 obtain ⟨a1, a2, a3, rfl⟩ := lQ ha
 obtain ⟨b1, b2, b3, rfl⟩ := lQ hb
 obtain ⟨c1, c2, c3, rfl⟩ := lQ hc
 simp only [fc, fB, Rc, jg, List.length_cons, List.length_nil, List.range, List.range.loop, List.map_cons, List.map_nil, List.set_cons_zero, List.set_cons_succ, List.cons_append, List.nil_append, e6, pad, ev, fs]
 by_cases hd : a1 * (b2 * c3 - b3 * c2) - a2 * (b1 * c3 - b3 * c1) + a3 * (b1 * c2 - b2 * c1) < 0
 ·simp only [if_pos hd, natAbs_neg hd]; refine ⟨?_, ?_, ?_, ?_⟩ <;> grind
 ·simp only [if_neg hd, oR hd]; refine ⟨?_, ?_, ?_, ?_⟩ <;> grind
def gG (q : List Int) : Nat := q.foldl (fun d x => Nat.gcd d x.natAbs) 0
def pO (q : List Int) : List Int := q.map fun x => x / (gG q : Int)
theorem Br (q : List Int) : ∀ d : Nat, (∀ x ∈ q, (q.foldl (fun d x => Nat.gcd d x.natAbs) d : Nat) ∣ x.natAbs) ∧ q.foldl (fun d x => Nat.gcd d x.natAbs) d ∣ d := by
 induction q with
 | nil => intro d; exact ⟨by simp, Nat.dvd_refl _⟩
 | cons a q ih =>
  intro d
  obtain ⟨h1, h2⟩ := ih (Nat.gcd d a.natAbs)
  refine ⟨fun x hx => ?_, Nat.dvd_trans h2 (Nat.gcd_dvd_left _ _)⟩
  rcases List.mem_cons.mp hx with e | e
  ·subst e; exact Nat.dvd_trans h2 (Nat.gcd_dvd_right _ _)
  ·exact h1 x e
theorem Fo {q : List Int} {x : Int} (h : x ∈ q) : (gG q : Int) ∣ x := Int.ofNat_dvd_left.mpr ((Br q 0).1 x h)
theorem Lp {q : List Int} {x : Int} (h : x ∈ q) : (gG q : Int) * (x / (gG q : Int)) = x := Int.mul_ediv_cancel' (Fo h)
theorem um {q : List Int} {x : Int} (h : x ∈ q) (hx : 0 < x) : 0 < gG q := by
 have := (Br q 0).1 x h
 exact Nat.pos_of_dvd_of_pos this (by omega)
theorem uo {dim : Nat} (hd : dim = 1 ∨ dim = 2 ∨ dim = 3) {q : List Int} (hq : q.length = dim + 1) :
  e6 q = ((gG q : Int) * (e6 (pO q)).1, (gG q : Int) * (e6 (pO q)).2.1, (gG q : Int) * (e6 (pO q)).2.2.1, (gG q : Int) * (e6 (pO q)).2.2.2) := by
 have h : ∀ x ∈ q, (gG q : Int) * (x / (gG q : Int)) = x := fun x hx => Lp hx
 rcases hd with rfl | rfl | rfl
 ·obtain ⟨a, d, rfl⟩ := mR hq
  simp only [pO, List.map_cons, List.map_nil, e6]
  rw [h a (by simp), h d (by simp)]; simp
 ·obtain ⟨a, b, d, rfl⟩ := lQ hq
  simp only [pO, List.map_cons, List.map_nil, e6]
  rw [h a (by simp), h b (by simp), h d (by simp)]; simp
 ·obtain ⟨a, b, c, d, rfl⟩ := Fm hq
  simp only [pO, List.map_cons, List.map_nil, e6]
  rw [h a (by simp), h b (by simp), h c (by simp), h d (by simp)]
theorem Fp {dim : Nat} (hd : dim = 1 ∨ dim = 2 ∨ dim = 3) {q : List Int} (hq : q.length = dim + 1) (hp : 0 < (e6 q).2.2.2) : l_ (e6 (pO q)) = 1 := by
 have e := uo hd hq
 have xm : 0 < gG q := by
  rcases Nat.eq_zero_or_pos (gG q) with h | h
  ·rw [e, h] at hp; simp at hp
  ·exact h
 have hg : l_ (e6 q) = gG q := by
  rcases hd with rfl | rfl | rfl
  ·obtain ⟨a, d, rfl⟩ := mR hq; simp [e6, l_, gG]
  ·obtain ⟨a, b, d, rfl⟩ := lQ hq; simp [e6, l_, gG]
  ·obtain ⟨a, b, c, d, rfl⟩ := Fm hq; simp [e6, l_, gG]
 have h := ui (gG q : Int) (e6 (pO q))
 rw [← e, hg, Int.natAbs_natCast] at h
 have : gG q * 1 = gG q * l_ (e6 (pO q)) := by rw [Nat.mul_one]; exact h
 exact (Nat.eq_of_mul_eq_mul_left xm this).symm
theorem yX (q : List Int) : (pO q).length = q.length := by simp [pO]
theorem Lq {dim : Nat} (hd : dim = 1 ∨ dim = 2 ∨ dim = 3) {q : List Int} (hq : q.length = dim + 1) (hp : 0 < (e6 q).2.2.2) : 0 < (e6 (pO q)).2.2.2 := by
 have Tl : 0 < (gG q : Int) * (e6 (pO q)).2.2.2 := by rw [uo hd hq] at hp; exact hp
 rcases Nat.eq_zero_or_pos (gG q) with h | h
 ·rw [h] at Tl; simp at Tl
 ·exact Int.pos_of_mul_pos_right Tl (by omega)
theorem JA {dim : Nat} (hd : dim = 1 ∨ dim = 2 ∨ dim = 3) {q : List Int} (hq : q.length = dim + 1) (f : H) : ev f (e6 q) = (gG q : Int) * ev f (e6 (pO q)) := by
 rw [← Fk, ← uo hd hq]
def Oy : List Nat → Prop
 | [] => True
 | [_] => True
 | a :: b :: S => a < b ∧ Oy (b :: S)
theorem Vq {F : Nat → H} {dim : Nat} (hd : dim = 1 ∨ dim = 2 ∨ dim = 3) {S : List Nat} (hS : S.length = dim) (h : xn F S ≠ 0) :
  ∃ T : List Nat, T.length = dim ∧ Oy T ∧ (∀ k, k ∈ T ↔ k ∈ S) ∧ xn F T ≠ 0 := by
 have hn := q_ hd hS h
 rcases hd with rfl | rfl | rfl
 ·obtain ⟨a, rfl⟩ := uk hS
  exact ⟨[a], rfl, trivial, fun _ => Iff.rfl, h⟩
 ·obtain ⟨a, b, rfl⟩ := mR hS
  have Lo : a ≠ b := by simpa using hn
  by_cases c : a < b
  ·exact ⟨[a, b], rfl, ⟨c, trivial⟩, fun _ => Iff.rfl, h⟩
  ·refine ⟨[b, a], rfl, ⟨by omega, trivial⟩, fun k => by simp [or_comm], ?_⟩
   have h' : fs (F a) (F b) (fJ 2) ≠ 0 := h
   show fs (F b) (F a) (fJ 2) ≠ 0
   intro e
   apply h'
   rw [gh, Bq, e]; rfl
 ·obtain ⟨a, b, c, rfl⟩ := lQ hS
  have h' : fs (F a) (F b) (F c) ≠ 0 := h
  simp only [List.nodup_cons, List.mem_cons, List.not_mem_nil, or_false, not_or, List.nodup_nil, and_true, not_false_eq_true] at hn
  obtain ⟨⟨h1, h2⟩, h3⟩ := hn
  have r1 : ∀ x y z, fs x y z ≠ 0 → fs y z x ≠ 0 := fun x y z h => by rw [← gh]; exact h
  have r2 : ∀ x y z, fs x y z ≠ 0 → fs x z y ≠ 0 := fun x y z h e => h (by rw [Bq, e]; rfl)
  by_cases c1 : a < b
  ·by_cases c2 : b < c
   ·exact ⟨[a, b, c], rfl, ⟨c1, c2, trivial⟩, fun _ => Iff.rfl, h⟩
   ·by_cases c3 : a < c
    ·exact ⟨[a, c, b], rfl, ⟨c3, by omega, trivial⟩, fun k => by simp only [List.mem_cons, List.not_mem_nil, or_false]; omega, r2 _ _ _ h'⟩
    ·exact ⟨[c, a, b], rfl, ⟨by omega, c1, trivial⟩, fun k => by simp only [List.mem_cons, List.not_mem_nil, or_false]; omega, r1 _ _ _ (r1 _ _ _ h')⟩
  ·by_cases c2 : a < c
   ·exact ⟨[b, a, c], rfl, ⟨by omega, c2, trivial⟩, fun k => by simp only [List.mem_cons, List.not_mem_nil, or_false]; omega, r2 _ _ _ (r1 _ _ _ h')⟩
   ·by_cases c3 : b < c
    ·exact ⟨[b, c, a], rfl, ⟨c3, by omega, trivial⟩, fun k => by simp only [List.mem_cons, List.not_mem_nil, or_false]; omega, r1 _ _ _ h'⟩
    ·exact ⟨[c, b, a], rfl, ⟨by omega, by omega, trivial⟩, fun k => by simp only [List.mem_cons, List.not_mem_nil, or_false]; omega, r2 _ _ _ (r1 _ _ _ (r1 _ _ _ h'))⟩
def Fq (F : Nat → H) (C : Nat → Cd) (N dim : Nat) : Prop := ∀ k, k < N → (C k).1.length = dim ∧ ∃ s : Int, (s = 1 ∨ s = -1) ∧ F k = pad s (C k)
theorem zp {F : Nat → H} {C : Nat → Cd} {N dim : Nat} (hT : Fq F C N dim) (hd : dim = 1 ∨ dim = 2 ∨ dim = 3) {S : List Nat} (hS : S.length = dim) (hN : ∀ k ∈ S, k < N) :
  (∀ k ∈ S, ev (F k) (e6 (fc (S.map C))) = 0) ∧ (xn F S ≠ 0 ↔ fB ((S.map C).map (·.1)) ≠ 0) := by
 have neg : ∀ s x : Int, (s = 1 ∨ s = -1) → (s * x ≠ 0 ↔ x ≠ 0) := by intro s x h; rcases h with rfl | rfl <;> omega
 rcases hd with rfl | rfl | rfl
 ·obtain ⟨a, rfl⟩ := uk hS
  obtain ⟨l1, s, hs, e1⟩ := hT a (hN a (by simp))
  obtain ⟨h1, h2⟩ := akr (C a) l1 s hs
  constructor
  ·intro k hk
   have : k = a := by simpa using hk
   subst this
   rw [e1]; exact h1
  ·show fs (F a) (fJ 1) (fJ 2) ≠ 0 ↔ _
   rw [e1, h2]; exact neg _ _ hs
 ·obtain ⟨a, b, rfl⟩ := mR hS
  obtain ⟨l1, s, hs, e1⟩ := hT a (hN a (by simp))
  obtain ⟨l2, u, hu, e2⟩ := hT b (hN b (by simp))
  obtain ⟨h1, h2, h3⟩ := aks (C a) (C b) l1 l2 s u
  constructor
  ·intro k hk
   have : k = a ∨ k = b := by simpa using hk
   rcases this with rfl | rfl
   ·rw [e1]; exact h1
   ·rw [e2]; exact h2
  ·show fs (F a) (F b) (fJ 2) ≠ 0 ↔ _
   rw [e1, e2, h3]; exact neg _ _ (by rcases hs with rfl | rfl <;> rcases hu with rfl | rfl <;> simp)
 ·obtain ⟨a, b, c, rfl⟩ := lQ hS
  obtain ⟨l1, s, hs, e1⟩ := hT a (hN a (by simp))
  obtain ⟨l2, u, hu, e2⟩ := hT b (hN b (by simp))
  obtain ⟨l3, v, hv, e3⟩ := hT c (hN c (by simp))
  obtain ⟨h1, h2, h3, h4⟩ := akt (C a) (C b) (C c) l1 l2 l3 s u v
  constructor
  ·intro k hk
   have : k = a ∨ k = b ∨ k = c := by simpa using hk
   rcases this with rfl | rfl | rfl
   ·rw [e1]; exact h1
   ·rw [e2]; exact h2
   ·rw [e3]; exact h3
  ·show fs (F a) (F b) (F c) ≠ 0 ↔ _
   rw [e1, e2, e3, h4]; exact neg _ _ (by rcases hs with rfl | rfl <;> rcases hu with rfl | rfl <;> rcases hv with rfl | rfl <;> simp)
theorem pP {dim : Nat} (hd : dim = 1 ∨ dim = 2 ∨ dim = 3) {S : List Cd} (hS : S.length = dim) (h : fB (S.map (·.1)) ≠ 0) : 0 < (e6 (fc S)).2.2.2 := by
 have hp : (0 : Int) < ((fB (S.map (·.1))).natAbs : Int) := by omega
 rcases hd with rfl | rfl | rfl
 ·obtain ⟨a, rfl⟩ := uk hS; exact hp
 ·obtain ⟨a, b, rfl⟩ := mR hS; exact hp
 ·obtain ⟨a, b, c, rfl⟩ := lQ hS; exact hp
theorem tQ {F : Nat → H} {C : Nat → Cd} {N dim : Nat} (hT : Fq F C N dim) (hd : dim = 1 ∨ dim = 2 ∨ dim = 3) (p : List Int) :
  eX F N dim p ↔ ∃ S : List Nat, S.length = dim ∧ Oy S ∧ (∀ k ∈ S, k < N) ∧ fB ((S.map C).map (·.1)) ≠ 0 ∧ (∀ k, k < N → 0 ≤ ev (F k) (e6 (fc (S.map C)))) ∧ p = pO (fc (S.map C)) := by
 constructor
 ·rintro ⟨h1, h2, h3, h4, S, hS, hS0, mQ⟩
  obtain ⟨T, t1, t2, t3, t4⟩ := Vq hd hS mQ
  have tN : ∀ k ∈ T, k < N := fun k hk => (hS0 k ((t3 k).mp hk)).1
  obtain ⟨m1, m2⟩ := zp hT hd t1 tN
  have hl : (T.map C).length = dim := by simp [t1]
  have cl : (fc (T.map C)).length = dim + 1 := by rw [n3, hl]
  have cp := pP hd hl (m2.mp t4)
  have rl : (pO (fc (T.map C))).length = dim + 1 := by rw [yX, cl]
  have hg : ∀ f, ev f (e6 (fc (T.map C))) = (gG (fc (T.map C)) : Int) * ev f (e6 (pO (fc (T.map C)))) := fun f => JA hd cl f
  have hgp : (0 : Int) < (gG (fc (T.map C)) : Int) := by
   have e := uo hd cl
   rw [e] at cp
   rcases Nat.eq_zero_or_pos (gG (fc (T.map C))) with h | h
   ·rw [h] at cp; simp at cp
   ·omega
  have e : p = pO (fc (T.map C)) := sx (N := N) hd t1 t4 h1 rl h2 (Lq hd cl cp) h3 (Fp hd cl cp) (fun k hk => (hS0 k ((t3 k).mp hk)).2) (fun k hk => by
   have := m1 k hk
   rw [hg] at this
   rcases Int.mul_eq_zero.mp this with c | c
   ·omega
   ·exact c)
  refine ⟨T, t1, t2, tN, m2.mp t4, fun k hk => ?_, e⟩
  rw [hg, ← e]
  exact Int.mul_nonneg (by omega) (h4 k hk)
 ·rintro ⟨S, hS, hI, hN, mQ, lS, rfl⟩
  obtain ⟨m1, m2⟩ := zp hT hd hS hN
  have hl : (S.map C).length = dim := by simp [hS]
  have cl : (fc (S.map C)).length = dim + 1 := by rw [n3, hl]
  have cp := pP hd hl mQ
  have hg : ∀ f, ev f (e6 (fc (S.map C))) = (gG (fc (S.map C)) : Int) * ev f (e6 (pO (fc (S.map C)))) := fun f => JA hd cl f
  have hgp : (0 : Int) < (gG (fc (S.map C)) : Int) := by
   have e := uo hd cl
   rw [e] at cp
   rcases Nat.eq_zero_or_pos (gG (fc (S.map C))) with h | h
   ·rw [h] at cp; simp at cp
   ·omega
  refine ⟨by rw [yX, cl], Lq hd cl cp, Fp hd cl cp, fun k hk => ?_, S, hS, fun k hk => ⟨hN k hk, ?_⟩, m2.mpr mQ⟩
  ·have := lS k hk
   rw [hg] at this
   exact Int.nonneg_of_mul_nonneg_right this hgp
  ·have := m1 k hk
   rw [hg] at this
   rcases Int.mul_eq_zero.mp this with c | c
   ·omega
   ·exact c
def iq : List Int → List Int → Bool
 | a :: l, b :: m => if a = b then iq l m else decide (a < b)
 | _, _ => false
theorem lI : ∀ l : List Int, iq l l = false
 | [] => rfl
 | a :: l => by simp [iq, lI l]
theorem r5 : ∀ {a b c : List Int}, iq a b = true → iq b c = true → iq a c = true
 | [], _, _, h, _ => by simp [iq] at h
 | _ :: _, [], _, h, _ => by simp [iq] at h
 | _ :: _, _ :: _, [], _, h => by simp [iq] at h
 | x :: a, y :: b, z :: c, h1, h2 => by
  simp only [iq] at *
  by_cases e1 : x = y
  ·subst e1
   by_cases e2 : x = z
   ·subst e2; simp only [if_true] at *; exact r5 h1 h2
   ·rw [if_neg e2] at h2 ⊢; exact h2
  ·rw [if_neg e1] at h1
   by_cases e2 : y = z
   ·subst e2; rw [if_neg e1]; exact h1
   ·rw [if_neg e2] at h2
    have a1 := of_decide_eq_true h1
    have a2 := of_decide_eq_true h2
    rw [if_neg (by omega)]
    exact decide_eq_true (by omega)
theorem xE : ∀ {a b : List Int}, a.length = b.length → a ≠ b → iq a b = true ∨ iq b a = true
 | [], [], _, h => absurd rfl h
 | [], _ :: _, h, _ => by simp at h
 | _ :: _, [], h, _ => by simp at h
 | x :: a, y :: b, hl, fv => by
  simp only [iq]
  by_cases e : x = y
  ·subst e
   simp only [if_true]
   exact xE (by simpa using hl) (fun e => fv (by rw [e]))
  ·rw [if_neg e, if_neg (fun h => e h.symm)]
   rcases Int.lt_or_gt_of_ne e with h | h
   ·exact .inl (decide_eq_true h)
   ·exact .inr (decide_eq_true h)
def qa (L : List (List Int)) : Prop := L.Pairwise fun a b => iq a b = true
theorem tR : ∀ {L M : List (List Int)}, qa L → qa M → (∀ p, p ∈ L ↔ p ∈ M) → L = M
 | [], [], _, _, _ => rfl
 | [], b :: M, _, _, h => by have := (h b).mpr (by simp); simp at this
 | a :: L, [], _, _, h => by have := (h a).mp (by simp); simp at this
 | a :: L, b :: M, hL, hM, h => by
  obtain ⟨a1, a2⟩ := List.pairwise_cons.mp hL
  obtain ⟨b1, b2⟩ := List.pairwise_cons.mp hM
  have e : a = b := by
   have x := (h a).mp (by simp)
   have y := (h b).mpr (by simp)
   rcases List.mem_cons.mp x with x | x
   ·exact x
   ·rcases List.mem_cons.mp y with y | y
    ·exact y.symm
    ·have := r5 (b1 a x) (a1 b y)
     rw [lI] at this
     exact absurd this (by decide)
  subst e
  rw [tR a2 b2 (fun p => ?_)]
  constructor
  ·intro hp
   rcases List.mem_cons.mp ((h p).mp (List.mem_cons_of_mem _ hp)) with e | e
   ·subst e
    have := a1 p hp
    rw [lI] at this
    exact absurd this (by decide)
   ·exact e
  ·intro hp
   rcases List.mem_cons.mp ((h p).mpr (List.mem_cons_of_mem _ hp)) with e | e
   ·subst e
    have := b1 p hp
    rw [lI] at this
    exact absurd this (by decide)
   ·exact e
end Go.Proofs.YtggiicplcglalaaGreat.LH
end
section
namespace Go.Proofs.YtggiicplcglalaaGreat.GmRed
open Go.RowKit YtggiicplcglalaaGreat.All YtggiicplcglalaaGreatW.PrintWords YtggiicplcglalaaGreatW.PrintLast YtggiicplcglalaaGreat.Eqs YtggiicplcglalaaGreat.GmDet YtggiicplcglalaaGreat.LH
theorem Fs (a b : Nat) : Nat.gcd b (a % b) = Nat.gcd a b := by
 rw [Nat.gcd_comm b (a % b), Nat.gcd_comm a b, ← Nat.gcd_rec]
theorem Lr : ∀ (b a : Nat), Ev (fun k => bs.f k (a : Int) (b : Int)) ((Nat.gcd a b : Nat) : Int) := by
 intro b
 induction b using Nat.strongRecOn with
 | _ b ih =>
  intro a
  by_cases h : b = 0
  ·subst h
   rw [Nat.gcd_zero_right]
   exact Ev.step (fun k => by simp only [bs.f, bs.l0]; rw [if_pos (show ((0 : Nat) : Int) = 0 from rfl)]) (Ev.now _)
  ·have := ih (a % b) (Nat.mod_lt _ (by omega)) b
   rw [Fs] at this
   refine Ev.step (fun k => ?_) this
   simp only [bs.f, bs.l0]
   rw [if_neg (by omega)]
   rfl
theorem Vr : ∀ (b a : Nat), Ev (fun k => dW.f k (a : Int) (b : Int)) ((Nat.gcd a b : Nat) : Int) := by
 intro b
 induction b using Nat.strongRecOn with
 | _ b ih =>
  intro a
  by_cases h : b = 0
  ·subst h
   rw [Nat.gcd_zero_right]
   exact Ev.step (fun k => by simp only [dW.f, dW.l0]; rw [if_pos (show ((0 : Nat) : Int) = 0 from rfl)]) (Ev.now _)
  ·have := ih (a % b) (Nat.mod_lt _ (by omega)) b
   rw [Fs] at this
   refine Ev.step (fun k => ?_) this
   simp only [dW.f, dW.l0]
   rw [if_neg (by omega)]
   rfl
def Ft (q : List Int) (d : Nat) : Nat := q.foldl (fun d x => Nat.gcd d x.natAbs) d
theorem adz (q : List Int) (hq : ∀ x ∈ q, 0 ≤ x ∧ x < 4611686018427387904) (hl : q.length ≤ 1000) (g : Nat) (hg : 0 < g) (d : Nat) :
  ∀ i : Nat, i + d = q.length → Ev (fun k => bF.l1 k (g : Int) ((q.take i).map fun x => x / (g : Int)) q (q.length : Int) (i : Int)) (q.map fun x => x / (g : Int)) := by
 induction d with
 | zero =>
  intro i hi
  rw [List.take_of_length_le (by omega)]
  exact Ev.step (fun k => by simp only [bF.l1]; rw [if_neg (by omega)]) (Ev.now _)
 | succ d ih =>
  intro i hi
  have h1 : i < q.length := by omega
  obtain ⟨x0, x1⟩ := hq _ (List.getElem_mem h1)
  have ei : wrap64 ((i : Int) + 1) = ((i + 1 : Nat) : Int) := by unfold wrap64; omega
  have em : mx (g : Int) 1 = (g : Int) := by unfold mx; split <;> omega
  have hd0 : 0 ≤ q[i] / (g : Int) := Int.ediv_nonneg x0 (by omega)
  have hd1 : q[i] / (g : Int) ≤ q[i] := Int.ediv_le_self _ x0
  have et : wrap64 (Int.tdiv q[i] (g : Int)) = q[i] / (g : Int) := by
   rw [Int.tdiv_eq_ediv_of_nonneg x0]
   exact dC (by omega) (by omega)
  refine Ev.step (fun k => ?_) (ih (i + 1) (by omega))
  simp only [bF.l1]
  rw [if_pos (by omega), if_pos (by omega), if_pos (by omega), em, if_neg (by omega), if_pos (by simp; omega), b9 h1, et, ei, List.take_succ_eq_append_getElem h1, List.map_append]
  rfl
theorem adA (q : List Int) (hq : ∀ x ∈ q, 0 ≤ x ∧ x < 4611686018427387904) (hl : q.length ≤ 1000) (hg : 0 < gG q) (d : Nat) :
  ∀ (i : Nat), i + d = q.length → Ev (fun k => bF.l0 k q ((Ft (q.take i) 0 : Nat) : Int) [] q (q.length : Int) (i : Int)) (pO q) := by
 induction d with
 | zero =>
  intro i hi
  rw [List.take_of_length_le (by omega)]
  refine Ev.step (fun k => ?_) (adz q hq hl (gG q) hg q.length 0 (by omega))
  simp only [bF.l0]
  rw [if_neg (by omega)]
  rfl
 | succ d ih =>
  intro i hi
  have h1 : i < q.length := by omega
  obtain ⟨x0, x1⟩ := hq _ (List.getElem_mem h1)
  have ei : wrap64 ((i : Int) + 1) = ((i + 1 : Nat) : Int) := by unfold wrap64; omega
  have key := ih (i + 1) (by omega)
  have hs : Ft (q.take (i + 1)) 0 = Nat.gcd (Ft (q.take i) 0) q[i].natAbs := by
   unfold Ft
   rw [List.take_succ_eq_append_getElem h1, List.foldl_append]
   rfl
  rw [hs] at key
  have hx : q[i] = (q[i].natAbs : Int) := by omega
  refine Ev.step (f := fun k => (dW.f k ((Ft (q.take i) 0 : Nat) : Int) (q[i].natAbs : Int)).bind fun t => bF.l0 k q t [] q (q.length : Int) ((i + 1 : Nat) : Int)) (fun k => ?_) (Ev.bind (Vr _ _) key)
  simp only [bF.l0]
  rw [if_pos (by omega), if_pos (by omega), if_pos (by omega), b9 h1, ei, ← hx]
theorem Vs (q : List Int) (hq : ∀ x ∈ q, 0 ≤ x ∧ x < 4611686018427387904) (hl : q.length ≤ 1000) (hg : 0 < gG q) : Ev (fun k => bF.f k q) (pO q) :=
 adA q hq hl hg q.length 0 (by omega)
theorem Re {n : Nat} (hn : n = 1 ∨ n = 2 ∨ n = 3) {M : List (List Int)} (hM : M.length = n) (hr : ∀ r ∈ M, r.length = n) : nw n M = fB M := by
 rcases hn with rfl | rfl | rfl
 ·obtain ⟨r, rfl⟩ := uk hM
  obtain ⟨a, rfl⟩ := uk (hr r (by simp))
  exact akk a
 ·obtain ⟨r, s, rfl⟩ := mR hM
  obtain ⟨a, b, rfl⟩ := mR (hr r (by simp))
  obtain ⟨c, d, rfl⟩ := mR (hr s (by simp))
  rw [akl]
  simp only [fB, ady]
 ·obtain ⟨r, s, t, rfl⟩ := lQ hM
  obtain ⟨a, b, c, rfl⟩ := lQ (hr r (by simp))
  obtain ⟨d, e, f, rfl⟩ := lQ (hr s (by simp))
  obtain ⟨g, h, i, rfl⟩ := lQ (hr t (by simp))
  rw [akm]
  simp only [fB, Rc]
theorem mH {n : Nat} (hn : n = 1 ∨ n = 2 ∨ n = 3) {M : List (List Int)} (hM : M.length = n) (hr : ∀ r ∈ M, r.length = n ∧ ∀ a ∈ r, a.natAbs ≤ 19) : (fB M).natAbs ≤ 185193 ∧ Ev (fun k => aI.f k M) (fB M) := by
 obtain ⟨a, b⟩ := D1 n (by omega) M hM hr
 rw [Re hn hM (fun r h => (hr r h).1)] at a b
 refine ⟨Nat.le_trans a ?_, b⟩
 rcases hn with rfl | rfl | rfl <;> decide
theorem Fu {n : Nat} (hn : n = 1 ∨ n = 2 ∨ n = 3) {M : List (List Int)} (hM : M.length = n) (hr : ∀ r ∈ M, r.length = n ∧ ∀ a ∈ r, a.natAbs ≤ 19) : Ev (fun k => bJ.f k M) (fB M) := by
 have b := Ll n (by omega) (by omega) M hM hr
 rwa [Re hn hM (fun r h => (hr r h).1)] at b
end Go.Proofs.YtggiicplcglalaaGreat.GmRed
end
section
namespace Go.Proofs.YtggiicplcglalaaGreat.GmCh
open Go.RowKit YtggiicplcglalaaGreat.All YtggiicplcglalaaGreatW.PrintWords YtggiicplcglalaaGreatW.PrintLast YtggiicplcglalaaGreat.Eqs YtggiicplcglalaaGreat.LH
def zq (N : Nat) : Nat → Nat → List (List Nat)
 | 0, _ => [[]]
 | n + 1, lo => (List.range' lo (N - lo)).flatMap fun i => (zq N n (i + 1)).map (i :: ·)
theorem zt : ∀ (l : List Nat) (a : Nat), Oy (a :: l) ↔ (∀ b ∈ l, a < b) ∧ Oy l
 | [], a => by simp [Oy]
 | b :: l, a => by
  have ih := zt l b
  constructor
  ·rintro ⟨h1, h2⟩
   refine ⟨fun c hc => ?_, h2⟩
   rcases List.mem_cons.1 hc with rfl | hc
   ·exact h1
   ·have := (ih.1 h2).1 c hc; omega
  ·rintro ⟨h1, h2⟩
   exact ⟨h1 b (by simp), h2⟩
theorem n4 (N : Nat) : ∀ (n lo : Nat) (S : List Nat), S ∈ zq N n lo ↔ S.length = n ∧ Oy S ∧ ∀ k ∈ S, lo ≤ k ∧ k < N
 | 0, lo, S => by
  simp only [zq, List.mem_singleton]
  constructor
  ·rintro rfl; exact ⟨rfl, trivial, by simp⟩
  ·rintro ⟨h, _, _⟩; exact List.eq_nil_of_length_eq_zero h
 | n + 1, lo, S => by
  simp only [zq, List.mem_flatMap, List.mem_map, List.mem_range'_1]
  constructor
  ·rintro ⟨i, hi, T, hT, rfl⟩
   obtain ⟨t1, t2, t3⟩ := (n4 N n (i + 1) T).1 hT
   refine ⟨by simp [t1], (zt T i).2 ⟨fun b hb => (t3 b hb).1, t2⟩, fun k hk => ?_⟩
   rcases List.mem_cons.1 hk with rfl | hk
   ·omega
   ·have := t3 k hk; omega
  ·rintro ⟨h1, h2, h3⟩
   obtain ⟨i, T, rfl⟩ : ∃ i T, S = i :: T := by
    cases S with
    | nil => simp at h1
    | cons i T => exact ⟨i, T, rfl⟩
   have hi := h3 i (by simp)
   replace h2 := (zt T i).1 h2
   exact ⟨i, by omega, T, (n4 N n (i + 1) T).2 ⟨by simpa using h1, h2.2, fun k hk => ⟨h2.1 k hk, (h3 k (by simp [hk])).2⟩⟩, rfl⟩
def r6 (L : List (List Nat)) : List (List Int) := L.map fun S => S.map Int.ofNat
theorem JB (N n : Nat) (h : (n = 1 ∨ n = 2 ∨ n = 3) ∧ (N = n + 1 ∨ N = n + 2 ∨ N = n + 3)) : bA.f 100 (N : Int) (n : Int) 0 = some (r6 (zq N n 0)) := by
 obtain ⟨h1, h2⟩ := h
 rcases h1 with rfl | rfl | rfl <;> rcases h2 with rfl | rfl | rfl <;> kernel_rfl
theorem OF (N n : Nat) (h : (n = 1 ∨ n = 2 ∨ n = 3) ∧ (N = n + 1 ∨ N = n + 2 ∨ N = n + 3)) : Ev (fun k => bA.f k (N : Int) (n : Int) 0) (r6 (zq N n 0)) := by
 refine ⟨100, fun k hk => ?_⟩
 obtain ⟨d, rfl⟩ : ∃ d, k = 100 + d := ⟨k - 100, by omega⟩
 clear hk
 induction d with
 | zero => exact JB N n h
 | succ d ih => exact bA.mono _ _ _ _ _ ih
end Go.Proofs.YtggiicplcglalaaGreat.GmCh
end
section
namespace Go.Proofs.YtggiicplcglalaaGreat.GmSol
open Go.RowKit YtggiicplcglalaaGreat.All YtggiicplcglalaaGreatW.PrintWords YtggiicplcglalaaGreatW.PrintLast YtggiicplcglalaaGreat.Eqs YtggiicplcglalaaGreat.GmDet YtggiicplcglalaaGreat.GmRed YtggiicplcglalaaGreat.LH
abbrev Cn := bm
theorem D3 {x : List Cn} {i : Nat} (h : i < x.length) : au x (i : Int) = x[i] := by simp [au, List.getD, List.getElem?_eq_getElem h]
def jh (c : Nat) (x : List Cn) : List (List Int) := x.map fun q => q.f0.set c q.f1
theorem aku (x0 : List Cn) (hl : x0.length ≤ 1000) (v : List Int)
  (f_ : Ev (fun k => (bJ.f k (x0.map (·.f0))).bind fun t => if t = 0 then some ([] : List Int) else aY.l1 k x0 (x0.map (·.f0)) t ([] : List Int) (x0.length : Int) 0) v) (d : Nat) :
  ∀ i : Nat, i + d = x0.length → Ev (fun k => aY.l0 k x0 ((x0.take i).map (·.f0)) x0 (x0.length : Int) (i : Int)) v := by
 induction d with
 | zero =>
  intro i hi
  rw [List.take_of_length_le (by omega)]
  exact Ev.step (fun k => by simp only [aY.l0]; rw [if_neg (by omega)]) f_
 | succ d ih =>
  intro i hi
  have h1 : i < x0.length := by omega
  have ei : wrap64 ((i : Int) + 1) = ((i + 1 : Nat) : Int) := by unfold wrap64; omega
  refine Ev.step (fun k => ?_) (ih (i + 1) (by omega))
  simp only [aY.l0]
  rw [if_pos (by omega), if_pos (by omega), if_pos (by omega), if_pos (by simp; omega), D3 h1, ei, List.take_succ_eq_append_getElem h1, List.map_append]
  rfl
theorem akv (x0 : List Cn) (hl : x0.length ≤ 1000) (c : Nat) (hc : ∀ q ∈ x0, c < q.f0.length ∧ q.f0.length ≤ 1000) (x6 : Int) (x7 : List Int) (Yx Vt : Int) (v : List Int)
  (f_ : Ev (fun k => (bJ.f k (jh c x0)).bind fun t => if x7.length < 17592186044416 then aY.l1 k x0 (x0.map (·.f0)) x6 (x7 ++ [t]) Yx (wrap64 (Vt + 1)) else none) v) (d : Nat) :
  ∀ i : Nat, i + d = x0.length → Ev (fun k => aY.l2 k x0 (x0.map (·.f0)) x6 x7 (c : Int) (jh c (x0.take i)) Yx Vt (x0.map (·.f0)) ((x0.map (·.f0)).length : Int) (i : Int)) v := by
 induction d with
 | zero =>
  intro i hi
  rw [List.take_of_length_le (by omega)]
  refine Ev.step (fun k => ?_) f_
  simp only [aY.l2]
  rw [if_neg (by simp; omega)]
 | succ d ih =>
  intro i hi
  have h1 : i < x0.length := by omega
  obtain ⟨c1, c2⟩ := hc _ (List.getElem_mem h1)
  have ei : wrap64 ((i : Int) + 1) = ((i + 1 : Nat) : Int) := by unfold wrap64; omega
  have er : aJ (x0.map (·.f0)) (i : Int) = x0[i].f0 := by simp [aJ, List.getD, List.getElem?_eq_getElem h1]
  refine Ev.step (fun k => ?_) (ih (i + 1) (by omega))
  simp only [aY.l2]
  rw [if_pos (by simp; omega), if_pos (by omega), if_pos (by simp; omega), er, zl _ (by omega), Option.bind_some, if_pos (by omega), if_pos (by omega), if_pos (by omega), if_pos (by simp [jh]; omega), D3 h1, ei, Int.toNat_natCast]
  unfold jh
  rw [List.take_succ_eq_append_getElem h1, List.map_append]
  rfl
def zu (q : Cn) : Cd := (q.f0, q.f1)
theorem OG (c : Nat) (x : List Cn) : jg c (x.map zu) = jh c x := by
 unfold jg jh
 rw [List.map_map]
 rfl
theorem qb (f : Int → Int) (q : List Int) (i : Nat) (h : i < q.length) (h2 : i < ((q.take i).map f ++ q.drop i).length) : ((q.take i).map f ++ q.drop i)[i] = q[i] := by
 rw [List.getElem_append_right (by simp; omega), List.getElem_drop]
 have e : i + (i - (List.map f (q.take i)).length) = i := by simp; omega
 simp only [e]
theorem Rf (q : List Int) (i : Nat) (h : i < q.length) : ((q.take i).map (fun a => -a) ++ q.drop i).set i (-q[i]) = (q.take (i + 1)).map (fun a => -a) ++ q.drop (i + 1) := by
 rw [List.set_append, if_neg (by simp; omega), List.drop_eq_getElem_cons h, List.take_succ_eq_append_getElem h, List.map_append, List.append_assoc]
 have : i - (List.map (fun a : Int => -a) (q.take i)).length = 0 := by simp; omega
 rw [this]
 rfl
theorem akw (x6 : Int) (h6 : x6.natAbs ≤ 185193) (q : List Int) (hq : ∀ a ∈ q, a.natAbs ≤ 185193) (hl : q.length ≤ 1000) (d : Nat) :
  ∀ i : Nat, i + d = q.length → Ev (fun k => aY.l3 k x6 ((q.take i).map (fun a => -a) ++ q.drop i) (q.length : Int) (i : Int)) (q.map (fun a => -a) ++ [-x6]) := by
 induction d with
 | zero =>
  intro i hi
  rw [List.take_of_length_le (by omega), List.drop_eq_nil_of_le (by omega), List.append_nil]
  refine Ev.step (fun k => ?_) (Ev.now _)
  simp only [aY.l3]
  rw [if_neg (by omega), if_pos (by simp; omega), dC (x := -x6) (by omega) (by omega)]
 | succ d ih =>
  intro i hi
  have h1 : i < q.length := by omega
  have b := hq _ (List.getElem_mem h1)
  have ei : wrap64 ((i : Int) + 1) = ((i + 1 : Nat) : Int) := by unfold wrap64; omega
  refine Ev.step (fun k => ?_) (ih (i + 1) (by omega))
  simp only [aY.l3]
  have hlen : ((q.take i).map (fun a => -a) ++ q.drop i).length = q.length := by simp; omega
  have er : rd ((q.take i).map (fun a => -a) ++ q.drop i) (i : Int) = q[i] := by
   have h2 : i < ((q.take i).map (fun a => -a) ++ q.drop i).length := by omega
   rw [b9 h2, qb _ q i h1 h2]
  rw [if_pos (by omega), if_pos (by omega), if_pos (by omega), er, dC (x := -q[i]) (by omega) (by omega), Int.toNat_natCast, Rf q i h1, ei]
theorem Ls {n : Nat} (x0 : List Cn) (hx : x0.length = n) : fc (x0.map zu) = ((List.range n).map fun c => if fB (x0.map (·.f0)) < 0 then -fB (jh c x0) else fB (jh c x0)) ++ [((fB (x0.map (·.f0))).natAbs : Int)] := by
 unfold fc
 have e : (x0.map zu).map (·.1) = x0.map (·.f0) := by rw [List.map_map]; rfl
 rw [e, List.length_map, hx]
 simp only [OG]
def Sq (n : Nat) (x0 : List Cn) : Prop := x0.length = n ∧ ∀ q ∈ x0, q.f0.length = n ∧ (∀ a ∈ q.f0, a.natAbs ≤ 19) ∧ q.f1.natAbs ≤ 19
theorem Sq.rows {n : Nat} {x0 : List Cn} (h : Sq n x0) : (x0.map (·.f0)).length = n ∧ ∀ r ∈ x0.map (·.f0), r.length = n ∧ ∀ a ∈ r, a.natAbs ≤ 19 := by
 refine ⟨by simp [h.1], fun r hr => ?_⟩
 obtain ⟨q, hq, rfl⟩ := List.mem_map.1 hr
 exact ⟨(h.2 q hq).1, (h.2 q hq).2.1⟩
theorem Sq.BH {n : Nat} {x0 : List Cn} (h : Sq n x0) (c : Nat) : (jh c x0).length = n ∧ ∀ r ∈ jh c x0, r.length = n ∧ ∀ a ∈ r, a.natAbs ≤ 19 := by
 refine ⟨by simp [jh, h.1], fun r hr => ?_⟩
 obtain ⟨q, hq, rfl⟩ := List.mem_map.1 hr
 obtain ⟨a, b, c'⟩ := h.2 q hq
 refine ⟨by simp [a], fun z hz => ?_⟩
 rcases List.mem_or_eq_of_mem_set hz with h | h
 ·exact b z h
 ·subst h; exact c'
theorem akx {n : Nat} (hn : n = 1 ∨ n = 2 ∨ n = 3) (x0 : List Cn) (hs : Sq n x0) (v : List Int)
  (f_ : Ev (fun k => if fB (x0.map (·.f0)) < 0 then aY.l3 k (fB (x0.map (·.f0))) ((List.range n).map fun c => fB (jh c x0)) (((List.range n).map fun c => fB (jh c x0)).length : Int) 0 else if ((List.range n).map fun c => fB (jh c x0)).length < 17592186044416 then some (((List.range n).map fun c => fB (jh c x0)) ++ [fB (x0.map (·.f0))]) else none) v) (d : Nat) :
  ∀ i : Nat, i + d = n → Ev (fun k => aY.l1 k x0 (x0.map (·.f0)) (fB (x0.map (·.f0))) ((List.range i).map fun c => fB (jh c x0)) (x0.length : Int) (i : Int)) v := by
 induction d with
 | zero =>
  intro i hi
  obtain rfl : i = n := by omega
  refine Ev.step (fun k => ?_) f_
  simp only [aY.l1]
  rw [if_neg (by rw [hs.1]; omega)]
 | succ d ih =>
  intro i hi
  have ei : wrap64 ((i : Int) + 1) = ((i + 1 : Nat) : Int) := by unfold wrap64; omega
  obtain ⟨c1, c2⟩ := hs.BH i
  refine Ev.step (f := fun k => aY.l2 k x0 (x0.map (·.f0)) (fB (x0.map (·.f0))) ((List.range i).map fun c => fB (jh c x0)) (i : Int) (jh i (x0.take 0)) (x0.length : Int) (i : Int) (x0.map (·.f0)) ((x0.map (·.f0)).length : Int) ((0 : Nat) : Int)) (fun k => ?_) (akv x0 (by rw [hs.1]; omega) i (fun q hq => by rw [(hs.2 q hq).1]; omega) _ _ _ _ v ?_ x0.length 0 (by omega))
  ·simp only [aY.l1]
   rw [if_pos (by rw [hs.1]; omega)]
   rfl
  ·refine Ev.bind (a := fB (jh i x0)) (Fu hn c1 c2) ?_
   refine Ev.congr (f := fun k => aY.l1 k x0 (x0.map (·.f0)) (fB (x0.map (·.f0))) ((List.range (i + 1)).map fun c => fB (jh c x0)) (x0.length : Int) ((i + 1 : Nat) : Int)) (fun k => ?_) (ih (i + 1) (by omega))
   rw [if_pos (by simp; omega), ei, List.range_succ, List.map_append]
   rfl
theorem Vu {n : Nat} (hn : n = 1 ∨ n = 2 ∨ n = 3) (x0 : List Cn) (hs : Sq n x0) : Ev (fun k => aY.f k x0) (if fB ((x0.map zu).map (·.1)) = 0 then [] else fc (x0.map zu)) := by
 have e : (x0.map zu).map (·.1) = x0.map (·.f0) := by rw [List.map_map]; rfl
 rw [e]
 obtain ⟨r1, r2⟩ := hs.rows
 have hb := (mH hn r1 r2).1
 have hbc : ∀ c, (fB (jh c x0)).natAbs ≤ 185193 := fun c => (mH hn (hs.BH c).1 (hs.BH c).2).1
 refine aku x0 (by rw [hs.1]; omega) _ (Ev.bind (a := fB (x0.map (·.f0))) (Fu hn r1 r2) ?_) x0.length 0 (by omega)
 by_cases c : fB (x0.map (·.f0)) = 0
 ·rw [if_pos c]
  exact Ev.congr (fun k => by rw [if_pos c]) (Ev.now _)
 ·rw [if_neg c, Ls x0 hs.1]
  refine Ev.congr (fun k => by rw [if_neg c]; rfl) (akx hn x0 hs _ ?_ n 0 (by omega))
  generalize hd : fB (x0.map (·.f0)) = D at hb c ⊢
  by_cases c2 : D < 0
  ·simp only [if_pos c2]
   have := akw D hb ((List.range n).map fun c => fB (jh c x0)) (fun a ha => by
    obtain ⟨j, _, rfl⟩ := List.mem_map.1 ha
    exact hbc j) (by simp; omega) ((List.range n).map fun c => fB (jh c x0)).length 0 (by omega)
   rw [List.map_map] at this
   rw [natAbs_neg c2]
   exact this
  ·simp only [if_neg c2]
   rw [oR c2]
   exact Ev.congr (fun k => by rw [if_pos (by simp; omega)]) (Ev.now _)
end Go.Proofs.YtggiicplcglalaaGreat.GmSol
end
section
namespace Go.Proofs.YtggiicplcglalaaGreat.GmDot
open Go.RowKit YtggiicplcglalaaGreat.All YtggiicplcglalaaGreatW.PrintWords YtggiicplcglalaaGreatW.PrintLast YtggiicplcglalaaGreat.Eqs YtggiicplcglalaaGreat.GmDet
def jM : List Int → List Int → Int
 | a :: x, b :: y => a * b + jM x y
 | _, _ => 0
theorem D4 {a b : Int} (ha : a.natAbs ≤ 19) (hb : b.natAbs ≤ 1000000000) : (a * b).natAbs ≤ 19000000000 := by
 rw [Int.natAbs_mul]
 exact Nat.le_trans (Nat.mul_le_mul ha hb) (by decide)
theorem adB (x y : List Int) (hxy : x.length ≤ y.length) (hx : ∀ a ∈ x, a.natAbs ≤ 19) (hy : ∀ b ∈ y, b.natAbs ≤ 1000000000) (hl : x.length ≤ 1000) (d : Nat) :
  ∀ (i : Nat) (s : Int), i + d = x.length → s.natAbs ≤ i * 19000000000 → Ev (fun k => dE.l0 k y s x (x.length : Int) (i : Int)) (s + jM (x.drop i) (y.drop i)) := by
 induction d with
 | zero =>
  intro i s hi hs
  rw [List.drop_eq_nil_of_le (show x.length ≤ i by omega)]
  simp only [jM, Int.add_zero]
  exact Ev.step (fun k => by simp only [dE.l0]; rw [if_neg (by omega)]) (Ev.now s)
 | succ d ih =>
  intro i s hi hs
  have h1 : i < x.length := by omega
  have h2 : i < y.length := by omega
  have b1 := D4 (hx _ (List.getElem_mem h1)) (hy _ (List.getElem_mem h2))
  rw [List.drop_eq_getElem_cons h1, List.drop_eq_getElem_cons h2]
  simp only [jM]
  generalize hP : x[i] * y[i] = P at b1 ⊢
  have ei : wrap64 ((i : Int) + 1) = ((i + 1 : Nat) : Int) := by unfold wrap64; omega
  have b2 : (s + P).natAbs ≤ (i + 1) * 19000000000 := by
   have := Int.natAbs_add_le s P
   omega
  have e1 : wrap64 P = P := dC (by omega) (by omega)
  have e2 : wrap64 (s + P) = s + P := dC (by omega) (by omega)
  have key := ih (i + 1) (s + P) (by omega) b2
  rw [Int.add_assoc] at key
  refine Ev.step (fun k => ?_) key
  simp only [dE.l0]
  rw [if_pos (by omega), if_pos (by omega), if_pos (by omega), if_pos (by omega), b9 h1, b9 h2, hP, e1, e2, ei]
theorem adC (x y : List Int) (hxy : x.length ≤ y.length) (hx : ∀ a ∈ x, a.natAbs ≤ 19) (hy : ∀ b ∈ y, b.natAbs ≤ 1000000000) (hl : x.length ≤ 1000) : Ev (fun k => dE.f k x y) (jM x y) := by
 have := adB x y hxy hx hy hl x.length 0 0 (by omega) (by simp)
 simp only [List.drop_zero, Int.zero_add] at this
 exact this
theorem Bs : ∀ (x y : List Int), jM x (y.take x.length) = jM x y
 | [], y => by simp [jM]
 | a :: x, [] => by simp [jM]
 | a :: x, b :: y => by simp [jM, Bs x y]
theorem Lt : ∀ (x y : List Int), (∀ a ∈ x, a.natAbs ≤ 19) → (∀ b ∈ y, b.natAbs ≤ 1000000000) → (jM x y).natAbs ≤ x.length * 19000000000
 | [], y, _, _ => by simp [jM]
 | a :: x, [], _, _ => by simp [jM]
 | a :: x, b :: y, hx, hy => by
  have ih := Lt x y (fun z hz => hx z (by simp [hz])) (fun z hz => hy z (by simp [hz]))
  have h1 := D4 (hx a (by simp)) (hy b (by simp))
  have := Int.natAbs_add_le (a * b) (jM x y)
  simp only [jM, List.length_cons]
  omega
def D5 (row : List Int) (rhs : Int) (p : List Int) : Int := jM row p - rhs * p.getD row.length 0
def told (least : Bool) (g : Int) : Int := if g = 0 then 0 else if (decide (g > 0) == least) = true then 1 else -1
theorem Vv (row : List Int) (rhs : Int) (least : Bool) (p : List Int) (hp : p.length = row.length + 1) (hr : ∀ a ∈ row, a.natAbs ≤ 19) (hs : rhs.natAbs ≤ 19) (hy : ∀ b ∈ p, b.natAbs ≤ 1000000000) (hl : row.length ≤ 100) :
  Ev (fun k => b4.f k row rhs least p) (told least (D5 row rhs p)) := by
 have hd := adC row (p.take row.length) (by simp; omega) hr (fun b hb => hy b (List.mem_of_mem_take hb)) (by omega)
 rw [Bs] at hd
 have hb := Lt row p hr hy
 have h1 : row.length < p.length := by omega
 have e0 : rd p (row.length : Int) = p[row.length] := b9 h1
 have eg : p.getD row.length 0 = p[row.length] := by simp [List.getD, List.getElem?_eq_getElem h1]
 have b1 := D4 hs (hy _ (List.getElem_mem h1))
 unfold D5
 rw [eg]
 generalize hP : rhs * p[row.length] = P at b1 ⊢
 generalize jM row p = D at hd hb ⊢
 have e1 : wrap64 P = P := dC (by omega) (by omega)
 have e2 : wrap64 (D - P) = D - P := dC (by omega) (by omega)
 refine Ev.congr (f := fun k => (dE.f k row (p.take row.length)).bind fun t => if wrap64 (t - wrap64 (rhs * p[row.length])) = 0 then some 0 else if (decide (wrap64 (t - wrap64 (rhs * p[row.length])) > 0) == least) = true then some 1 else some (-1)) (fun k => ?_) ?_
 ·simp only [b4.f]
  rw [if_pos (by omega), if_pos (by omega), Int.toNat_natCast, e0]
  congr 1
  funext t
  rw [if_pos (by omega)]
 ·refine Ev.bind (a := D) hd ?_
  rw [hP, e1, e2]
  unfold told
  by_cases c : D - P = 0
  ·rw [if_pos c, if_pos c]; exact Ev.now _
  ·rw [if_neg c, if_neg c]
   by_cases c2 : (decide (D - P > 0) == least) = true
   ·rw [if_pos c2, if_pos c2]; exact Ev.now _
   ·rw [if_neg c2, if_neg c2]; exact Ev.now _
end Go.Proofs.YtggiicplcglalaaGreat.GmDot
end
section
namespace Go.Proofs.YtggiicplcglalaaGreat.GmPut
open YtggiicplcglalaaGreat.LH
set_option autoImplicit true
def my : List (List Int) → List Int → List (List Int)
 | [], p => [p]
 | a :: L, p => if iq a p = true then a :: my L p else if a = p then a :: L else p :: a :: L
theorem uq (p q : List Int) : ∀ L : List (List Int), q ∈ my L p ↔ q = p ∨ q ∈ L
 | [] => by simp [my]
 | a :: L => by
  unfold my
  by_cases h : iq a p = true
  ·rw [if_pos h, List.mem_cons, uq p q L, List.mem_cons]
   constructor
   ·rintro (h | h | h)
    ·exact .inr (.inl h)
    ·exact .inl h
    ·exact .inr (.inr h)
   ·rintro (h | h | h)
    ·exact .inr (.inl h)
    ·exact .inl h
    ·exact .inr (.inr h)
  ·rw [if_neg h]
   by_cases e : a = p
   ·rw [if_pos e]; subst e
    simp
   ·rw [if_neg e]
    simp
theorem xF {n : Nat} (p : List Int) (hp : p.length = n) : ∀ L : List (List Int), (∀ a ∈ L, a.length = n) → qa L → qa (my L p)
 | [], _, _ => by simp [my, qa]
 | a :: L, hl, hs => by
  obtain ⟨h1, h2⟩ := List.pairwise_cons.mp hs
  unfold my
  by_cases h : iq a p = true
  ·rw [if_pos h]
   refine List.pairwise_cons.mpr ⟨fun b hb => ?_, xF p hp L (fun b hb => hl b (by simp [hb])) h2⟩
   rcases (uq p b L).1 hb with rfl | hb
   ·exact h
   ·exact h1 b hb
  ·rw [if_neg h]
   by_cases e : a = p
   ·rw [if_pos e]; exact hs
   ·rw [if_neg e]
    have hpa : iq p a = true := by
     rcases xE (a := a) (b := p) (by rw [hl a (by simp), hp]) e with c | c
     ·exact absurd c h
     ·exact c
    refine List.pairwise_cons.mpr ⟨fun b hb => ?_, hs⟩
    rcases List.mem_cons.1 hb with rfl | hb
    ·exact hpa
    ·exact r5 hpa (h1 b hb)
theorem OH {p a : List Int} (L : List (List Int)) (h : iq a p = true) : my (a :: L) p = a :: my L p := by
 simp only [my]; rw [if_pos h]
def gQ (N s : Nat) : List Nat := (List.range N).filter fun k => decide (s / 2 ^ k % 2 = 1)
theorem qv : ∀ {l : List Nat}, l.Pairwise (· < ·) → Oy l
 | [], _ => trivial
 | [_], _ => trivial
 | a :: b :: l, h => by
  obtain ⟨h1, h2⟩ := List.pairwise_cons.mp h
  exact ⟨h1 b (by simp), qv h2⟩
theorem OI (N s : Nat) : Oy (gQ N s) := qv (List.Pairwise.filter _ List.pairwise_lt_range)
theorem Fv {N s k : Nat} (h : k ∈ gQ N s) : k < N := List.mem_range.1 (List.mem_filter.1 h).1
theorem n5 (N s : Nat) : gQ (N + 1) s = gQ N s ++ (if s / 2 ^ N % 2 = 1 then [N] else []) := by
 unfold gQ
 rw [List.range_succ, List.filter_append]
 congr 1
 by_cases h : s / 2 ^ N % 2 = 1 <;> simp [h]
theorem Bt {N s t : Nat} (h : s < 2 ^ N) : ∀ M, M ≤ N → gQ M (s + 2 ^ N * t) = gQ M s
 | 0, _ => rfl
 | M + 1, hM => by
  rw [n5, n5, Bt h M (by omega)]
  have e : (s + 2 ^ N * t) / 2 ^ M % 2 = s / 2 ^ M % 2 := by
   obtain ⟨d, rfl⟩ : ∃ d, N = M + (d + 1) := ⟨N - M - 1, by omega⟩
   rw [Nat.pow_add, Nat.mul_assoc, Nat.add_mul_div_left _ _ (Nat.two_pow_pos M), Nat.pow_succ, Nat.mul_comm (2 ^ d) 2, Nat.mul_assoc, Nat.add_mul_mod_self_left]
  rw [e]
theorem sy : ∀ {l : List Nat} {a : Nat}, Oy (l ++ [a]) → Oy l ∧ ∀ b ∈ l, b < a
  | [], a, _ => ⟨trivial, by simp⟩
  | [x], a, h => ⟨trivial, by intro b hb; have : b = x := by simpa using hb
                              subst this; exact h.1⟩
  | x :: y :: l, a, h => by
    obtain ⟨h1, h2⟩ := h
    obtain ⟨i1, i2⟩ := sy (l := y :: l) h2
    refine ⟨⟨h1, i1⟩, fun b hb => ?_⟩
    rcases List.mem_cons.1 hb with rfl | hb
    · have := i2 y (by simp); omega
    · exact i2 b hb
theorem tS : ∀ (N : Nat) (S : List Nat), Oy S → (∀ k ∈ S, k < N) → ∃ s, s < 2 ^ N ∧ gQ N s = S
 | 0, S, _, hN => ⟨0, by simp, by
   cases S with
   | nil => rfl
   | cons a S => exact absurd (hN a (by simp)) (by omega)⟩
 | N + 1, S, hI, hN => by
  by_cases h : N ∈ S
  ·-- ym last is N
   have fv : S ≠ [] := fun e => by rw [e] at h; simp at h
   obtain ⟨T, a, rfl⟩ : ∃ T a, S = T ++ [a] := ⟨S.dropLast, S.getLast fv, (List.dropLast_concat_getLast fv).symm⟩
   obtain ⟨i1, i2⟩ := sy hI
   have ha : a = N := by
    have := hN a (by simp)
    rcases List.mem_append.1 h with c | c
    ·have := i2 N c; omega
    ·exact (by simpa using c : N = a).symm
   subst ha
   obtain ⟨s, s1, s2⟩ := tS a T i1 i2
   refine ⟨s + 2 ^ a * 1, by rw [Nat.pow_succ]; omega, ?_⟩
   rw [n5, Bt s1 a (Nat.le_refl _), s2]
   have e : (s + 2 ^ a * 1) / 2 ^ a % 2 = 1 := by
    rw [Nat.add_mul_div_left _ _ (Nat.two_pow_pos a), Nat.div_eq_of_lt s1]
   rw [if_pos e]
  ·obtain ⟨s, s1, s2⟩ := tS N S hI (fun k hk => by
    have := hN k hk
    have : k ≠ N := fun e => h (e ▸ hk)
    omega)
   refine ⟨s, by rw [Nat.pow_succ]; omega, ?_⟩
   rw [n5, s2, Nat.div_eq_of_lt s1]
   simp
end Go.Proofs.YtggiicplcglalaaGreat.GmPut
end
section
namespace Go.Proofs.YtggiicplcglalaaGreat.GmFig
open YtggiicplcglalaaGreat.LH YtggiicplcglalaaGreat.GmDot YtggiicplcglalaaGreat.GmPut
set_option linter.unusedVariables false
theorem zv {dim : Nat} (hd : dim = 1 ∨ dim = 2 ∨ dim = 3) {r p : List Int} (t s : Int) (hr : r.length = dim) (hp : p.length = dim + 1) : ev (pad s (r, t)) (e6 p) = s * D5 r t p := by
 unfold D5
 rcases hd with rfl | rfl | rfl
 ·obtain ⟨a, rfl⟩ := uk hr
  obtain ⟨x, d, rfl⟩ := mR hp
  simp [pad, e6, ev, jM]
  grind
 ·obtain ⟨a, b, rfl⟩ := mR hr
  obtain ⟨x, y, d, rfl⟩ := lQ hp
  simp [pad, e6, ev, jM]
  grind
 ·obtain ⟨a, b, c, rfl⟩ := lQ hr
  obtain ⟨x, y, z, d, rfl⟩ := Fm hp
  simp [pad, e6, ev, jM]
  grind
theorem OJ (b : Bool) (g : Int) : told b g = 0 ↔ g = 0 := by
 unfold told
 by_cases h : g = 0
 ·simp [h]
 ·rw [if_neg h]; split <;> simp [h]
theorem Rg (b : Bool) (g : Int) : told b g < 0 ↔ (if b = true then (1 : Int) else -1) * g < 0 := by
 unfold told
 by_cases h : g = 0
 ·subst h; simp
 ·rw [if_neg h]
  cases b
  ·by_cases c : g > 0
   ·simp [c]
   ·simp [c] <;> omega
  ·by_cases c : g > 0
   ·simp [c] <;> omega
   ·simp [c] <;> omega
theorem kc {F G : Nat → H} {N dim : Nat} (hd : dim = 1 ∨ dim = 2 ∨ dim = 3) (h1 : ∀ k, k < N → ∃ j, j < N ∧ F k = G j) (h2 : ∀ j, j < N → ∃ k, k < N ∧ G j = F k) {p : List Int} (h : eX F N dim p) : eX G N dim p := by
 obtain ⟨a, b, c, d, S, hS, h0, mQ⟩ := h
 refine ⟨a, b, c, fun j hj => ?_, ?_⟩
 ·obtain ⟨k, hk, e⟩ := h2 j hj
  rw [e]; exact d k hk
 ·rcases hd with rfl | rfl | rfl
  ·obtain ⟨x, rfl⟩ := uk hS
   obtain ⟨x1, x2⟩ := h0 x (by simp)
   obtain ⟨i, hi, ex⟩ := h1 x x1
   refine ⟨[i], rfl, fun k hk => ?_, ?_⟩
   ·have : k = i := by simpa using hk
    subst this; rw [← ex]; exact ⟨hi, x2⟩
   ·simpa only [xn, ← ex] using mQ
  ·obtain ⟨x, y, rfl⟩ := mR hS
   obtain ⟨x1, x2⟩ := h0 x (by simp)
   obtain ⟨y1, y2⟩ := h0 y (by simp)
   obtain ⟨i, hi, ex⟩ := h1 x x1
   obtain ⟨j, hj, ey⟩ := h1 y y1
   refine ⟨[i, j], rfl, fun k hk => ?_, ?_⟩
   ·have : k = i ∨ k = j := by simpa using hk
    rcases this with rfl | rfl
    ·rw [← ex]; exact ⟨hi, x2⟩
    ·rw [← ey]; exact ⟨hj, y2⟩
   ·simpa only [xn, ← ex, ← ey] using mQ
  ·obtain ⟨x, y, z, rfl⟩ := lQ hS
   obtain ⟨x1, x2⟩ := h0 x (by simp)
   obtain ⟨y1, y2⟩ := h0 y (by simp)
   obtain ⟨z1, z2⟩ := h0 z (by simp)
   obtain ⟨i, hi, ex⟩ := h1 x x1
   obtain ⟨j, hj, ey⟩ := h1 y y1
   obtain ⟨l, hl, ez⟩ := h1 z z1
   refine ⟨[i, j, l], rfl, fun k hk => ?_, ?_⟩
   ·have : k = i ∨ k = j ∨ k = l := by simpa using hk
    rcases this with rfl | rfl | rfl
    ·rw [← ex]; exact ⟨hi, x2⟩
    ·rw [← ey]; exact ⟨hj, y2⟩
    ·rw [← ez]; exact ⟨hl, z2⟩
   ·simpa only [xn, ← ex, ← ey, ← ez] using mQ
def j6 (n i : Nat) : List Int := (List.replicate n (0 : Int)).set i 1
theorem sG (n i : Nat) : (j6 n i).length = n := by simp [j6]
def CA (dim : Nat) (M : List (List Int)) (k : Nat) : Cd := if k < dim then (j6 dim k, 0) else (M.getD (k - dim) [], 1)
def FA (dim : Nat) (M : List (List Int)) (k : Nat) : H := if k < dim then pad 1 (j6 dim k, 0) else pad (-1) (M.getD (k - dim) [], 1)
def FB (dim : Nat) (M : List (List Int)) (k : Nat) : H := if k < M.length then pad (-1) (M.getD k [], 1) else pad 1 (j6 dim (k - M.length), 0)
theorem ic {M : List (List Int)} {k : Nat} (h : k < M.length) : M.getD k [] ∈ M := by
 rw [List.getD_eq_getElem?_getD, List.getElem?_eq_getElem h]
 exact List.getElem_mem _
theorem JC {dim : Nat} {M : List (List Int)} (hM : ∀ r ∈ M, r.length = dim) : Fq (FA dim M) (CA dim M) (dim + M.length) dim := by
 intro k hk
 unfold FA CA
 by_cases c : k < dim
 ·rw [if_pos c, if_pos c]
  exact ⟨sG _ _, 1, .inl rfl, rfl⟩
 ·rw [if_neg c, if_neg c]
  exact ⟨hM _ (ic (by omega)), -1, .inr rfl, rfl⟩
def n7 (dim m k : Nat) : Nat := if k < dim then m + k else k - dim
theorem Rh (dim : Nat) (M : List (List Int)) {k : Nat} (hk : k < dim + M.length) : n7 dim M.length k < dim + M.length ∧ FA dim M k = FB dim M (n7 dim M.length k) := by
 unfold n7 FA FB
 by_cases c : k < dim
 ·rw [if_pos c, if_pos c, if_neg (by omega), show M.length + k - M.length = k by omega]
  exact ⟨by omega, rfl⟩
 ·rw [if_neg c, if_neg c, if_pos (by omega)]
  exact ⟨by omega, rfl⟩
theorem Yy (dim : Nat) (M : List (List Int)) {k : Nat} (hk : k < dim + M.length) : ∃ j, j < dim + M.length ∧ n7 dim M.length j = k ∧ FB dim M k = FA dim M j := by
 by_cases c : k < M.length
 ·refine ⟨dim + k, by omega, by unfold n7; rw [if_neg (by omega)]; omega, ?_⟩
  unfold FA FB
  rw [if_pos c, if_neg (by omega), show dim + k - dim = k by omega]
 ·refine ⟨k - M.length, by omega, by unfold n7; rw [if_pos (by omega)]; omega, ?_⟩
  unfold FA FB
  rw [if_neg c, if_pos (by omega)]
theorem Bu {dim : Nat} (hd : dim = 1 ∨ dim = 2 ∨ dim = 3) (M : List (List Int)) (p : List Int) : eX (FA dim M) (dim + M.length) dim p ↔ eX (FB dim M) (dim + M.length) dim p := by
 have h1 : ∀ k, k < dim + M.length → ∃ j, j < dim + M.length ∧ FA dim M k = FB dim M j := fun k hk => ⟨_, Rh dim M hk⟩
 have h2 : ∀ k, k < dim + M.length → ∃ j, j < dim + M.length ∧ FB dim M k = FA dim M j := fun k hk => by
  obtain ⟨j, a, _, b⟩ := Yy dim M hk
  exact ⟨j, a, b⟩
 exact ⟨kc hd h1 h2, kc hd h2 h1⟩
end Go.Proofs.YtggiicplcglalaaGreat.GmFig
end
section
namespace Go.Proofs.YtggiicplcglalaaGreat.GmImp
open Go.RowKit YtggiicplcglalaaGreat.All YtggiicplcglalaaGreatW.PrintWords YtggiicplcglalaaGreatW.PrintLast YtggiicplcglalaaGreat.Eqs YtggiicplcglalaaGreat.GmDet YtggiicplcglalaaGreat.GmRed YtggiicplcglalaaGreat.LH YtggiicplcglalaaGreat.GmCh YtggiicplcglalaaGreat.GmSol YtggiicplcglalaaGreat.GmDot YtggiicplcglalaaGreat.GmFig YtggiicplcglalaaGreat.GmPut
set_option linter.unusedVariables false
theorem D6 {α β : Type} (G : β → Nat → Option α) (v : β → α) : ∀ L : List β, (∀ j ∈ L, Ev (G j) (v j)) → ∃ K, ∀ k, K ≤ k → ∀ j ∈ L, G j k = some (v j)
 | [], _ => ⟨0, fun _ _ _ h => by simp at h⟩
 | a :: L, h => by
  obtain ⟨K1, h1⟩ := h a (by simp)
  obtain ⟨K2, h2⟩ := D6 G v L (fun j hj => h j (by simp [hj]))
  refine ⟨K1 + K2, fun k hk j hj => ?_⟩
  rcases List.mem_cons.1 hj with rfl | hj
  ·exact h1 k (by omega)
  ·exact h2 k (by omega) j hj
theorem any_congr {β : Type} {p q : β → Bool} : ∀ {L : List β}, (∀ j ∈ L, p j = q j) → L.any p = L.any q
 | [], _ => rfl
 | a :: L, h => by
  simp only [List.any_cons]
  rw [h a (by simp), any_congr (fun j hj => h j (by simp [hj]))]
def kM (l : List Cn) (j : Nat) : Cn := au l (j : Int)
theorem zw {l : List Cn} {j : Nat} (h : j < l.length) : kM l j = l[j] := D3 h
def CL (l : List Cn) (j : Nat) : Cd := zu (kM l j)
def sgn (b : Bool) : Int := if b = true then 1 else -1
def FL (l : List Cn) (j : Nat) : H := pad (sgn (kM l j).f2) (CL l j)
def lJ (n : Nat) (l : List Cn) : Prop := (n = 1 ∨ n = 2 ∨ n = 3) ∧ (l.length = n + 1 ∨ l.length = n + 2 ∨ l.length = n + 3) ∧ ∀ q ∈ l, q.f0.length = n ∧ (∀ a ∈ q.f0, a.natAbs ≤ 19) ∧ q.f1.natAbs ≤ 19
theorem lJ.at {n : Nat} {l : List Cn} (h : lJ n l) {j : Nat} (hj : j < l.length) : (kM l j).f0.length = n ∧ (∀ a ∈ (kM l j).f0, a.natAbs ≤ 19) ∧ (kM l j).f1.natAbs ≤ 19 := by
 rw [zw hj]
 exact h.2.2 _ (List.getElem_mem hj)
theorem lJ.aky {n : Nat} {l : List Cn} (h : lJ n l) : Fq (FL l) (CL l) l.length n := by
 intro k hk
 refine ⟨(h.at hk).1, sgn (kM l k).f2, ?_, rfl⟩
 unfold sgn
 split
 ·exact .inl rfl
 ·exact .inr rfl
theorem Fw {n : Nat} {l : List Cn} (h : lJ n l) {p : List Int} (hp : p.length = n + 1) (hy : ∀ b ∈ p, b.natAbs ≤ 1000000000) {j : Nat} (hj : j < l.length) :
  Ev (fun k => b4.f k (kM l j).f0 (kM l j).f1 (kM l j).f2 p) (told (kM l j).f2 (D5 (kM l j).f0 (kM l j).f1 p)) := by
 obtain ⟨a, b, c⟩ := h.at hj
 exact Vv _ _ _ p (by rw [a, hp]) b c hy (by rw [a]; rcases h.1 with h | h | h <;> omega)
theorem Yz {n : Nat} {l : List Cn} (h : lJ n l) {p : List Int} (hp : p.length = n + 1) {j : Nat} (hj : j < l.length) : ev (FL l j) (e6 p) = sgn (kM l j).f2 * D5 (kM l j).f0 (kM l j).f1 p :=
 zv h.1 _ _ (h.at hj).1 hp
theorem Ri (b : Bool) (g : Int) : sgn b * g = 0 ↔ g = 0 := by
 unfold sgn; cases b <;> simp
def JD (l : List Cn) (p : List Int) : Bool := (List.range l.length).any fun j => decide (ev (FL l j) (e6 p) < 0)
theorem OK {n : Nat} {l : List Cn} (h : lJ n l) {p : List Int} (hp : p.length = n + 1) (hy : ∀ b ∈ p, b.natAbs ≤ 1000000000) : Ev (fun k => dv.f k l p) (JD l p) := by
 obtain ⟨K, hK⟩ := D6 (fun j k => qw k l p j) (fun j => told (kM l j).f2 (D5 (kM l j).f0 (kM l j).f1 p)) (List.range' 0 l.length) (fun j hj => by
  have tg : j < l.length := by have := List.mem_range'_1.1 hj; omega
  exact Fw h hp hy tg)
 refine ⟨K, fun k hk => ?_⟩
 have hk' := hK k hk
 show dv.f k l p = some (JD l p)
 unfold dv.f
 rw [if_pos (List.all_eq_true.mpr fun j hj => by rw [hk' j hj]; rfl)]
 congr 1
 unfold JD
 rw [List.range_eq_range']
 refine any_congr fun j hj => ?_
 have tg : j < l.length := by have := List.mem_range'_1.1 hj; omega
 rw [hk' j hj, Option.getD_some]
 rw [decide_eq_decide, Rg, Yz h hp tg]
 rfl
def OL (l : List Cn) (S : List Nat) : Bool := decide (fB ((S.map (CL l)).map (·.1)) ≠ 0) && !JD l (fc (S.map (CL l)))
def Vw (l : List Cn) (S : List Nat) : List Int := pO (fc (S.map (CL l)))
def qx (l : List Cn) (n : Nat) : List (List Int) := ((zq l.length n 0).filter (OL l)).map (Vw l)
theorem zx (l : List Cn) (p : List Int) : JD l p = false ↔ ∀ k, k < l.length → 0 ≤ ev (FL l k) (e6 p) := by
 unfold JD
 rw [List.any_eq_false]
 constructor
 ·intro h k hk
  have := h k (List.mem_range.2 hk)
  simp only [decide_eq_true_eq] at this
  omega
 ·intro h k hk
  have := h k (List.mem_range.1 hk)
  simp only [decide_eq_true_eq]
  omega
theorem nF {n : Nat} {l : List Cn} (h : lJ n l) (p : List Int) : p ∈ qx l n ↔ eX (FL l) l.length n p := by
 rw [tQ h.aky h.1]
 unfold qx
 rw [List.mem_map]
 constructor
 ·rintro ⟨S, hS, rfl⟩
  obtain ⟨h1, h2⟩ := List.mem_filter.1 hS
  obtain ⟨a, b, c⟩ := (n4 _ _ _ _).1 h1
  unfold OL at h2
  rw [Bool.and_eq_true, Bool.not_eq_true'] at h2
  exact ⟨S, a, b, fun k hk => (c k hk).2, of_decide_eq_true h2.1, (zx _ _).1 h2.2, rfl⟩
 ·rintro ⟨S, a, b, c, d, e, rfl⟩
  refine ⟨S, List.mem_filter.2 ⟨(n4 _ _ _ _).2 ⟨a, b, fun k hk => ⟨Nat.zero_le _, c k hk⟩⟩, ?_⟩, rfl⟩
  unfold OL
  rw [Bool.and_eq_true, Bool.not_eq_true']
  exact ⟨decide_eq_true d, (zx _ _).2 e⟩
theorem ZA {n : Nat} {l : List Cn} (h : lJ n l) {S : List Nat} (hS : S.length = n) (hN : ∀ k ∈ S, k < l.length) : Sq n (S.map (kM l)) := by
 refine ⟨by simp [hS], fun q hq => ?_⟩
 obtain ⟨j, hj, rfl⟩ := List.mem_map.1 hq
 exact h.at (hN j hj)
theorem JE (l : List Cn) (S : List Nat) : (S.map (kM l)).map zu = S.map (CL l) := by
 rw [List.map_map]; rfl
theorem Lu {n : Nat} (hn : n = 1 ∨ n = 2 ∨ n = 3) (x0 : List Cn) (hs : Sq n x0) : ∀ b ∈ fc (x0.map zu), b.natAbs ≤ 185193 := by
 intro b hb
 rw [Ls x0 hs.1] at hb
 rcases List.mem_append.1 hb with h | h
 ·obtain ⟨c, _, rfl⟩ := List.mem_map.1 h
  have := (mH hn (hs.BH c).1 (hs.BH c).2).1
  split <;> omega
 ·have e : b = ((fB (x0.map (·.f0))).natAbs : Int) := by simpa using h
  have := (mH hn hs.rows.1 hs.rows.2).1
  omega
theorem Rj (q : List Int) (B : Nat) (h : ∀ b ∈ q, b.natAbs ≤ B) : ∀ b ∈ pO q, b.natAbs ≤ B := by
 intro b hb
 obtain ⟨x, hx, rfl⟩ := List.mem_map.1 hb
 have h1 := h x hx
 have h2 := Lp hx
 rcases Nat.eq_zero_or_pos (gG q) with e | e
 ·rw [e]; simp
 ·have := congrArg Int.natAbs h2
  rw [Int.natAbs_mul, Int.natAbs_natCast] at this
  have h3 : (x / (gG q : Int)).natAbs ≤ gG q * (x / (gG q : Int)).natAbs := Nat.le_mul_of_pos_left _ e
  omega
theorem Fx {n : Nat} {l : List Cn} (h : lJ n l) {p : List Int} (hp : p ∈ qx l n) : p.length = n + 1 ∧ ∀ b ∈ p, b.natAbs ≤ 185193 := by
 refine ⟨((nF h p).1 hp).1, ?_⟩
 obtain ⟨S, hS, rfl⟩ := List.mem_map.1 hp
 obtain ⟨h1, _⟩ := List.mem_filter.1 hS
 obtain ⟨a, b, c⟩ := (n4 _ _ _ _).1 h1
 refine Rj _ _ ?_
 rw [← JE]
 exact Lu h.1 _ (ZA h a fun k hk => (c k hk).2)
theorem sH {n : Nat} (hn : n = 1 ∨ n = 2 ∨ n = 3) {q : List Int} (hq : q.length = n + 1) (h : 0 < (e6 q).2.2.2) : ∃ x ∈ q, 0 < x := by
 rcases hn with rfl | rfl | rfl
 ·obtain ⟨a, d, rfl⟩ := mR hq; exact ⟨d, by simp, h⟩
 ·obtain ⟨a, b, d, rfl⟩ := lQ hq; exact ⟨d, by simp, h⟩
 ·obtain ⟨a, b, c, d, rfl⟩ := Fm hq; exact ⟨d, by simp, h⟩
def NonNeg (n : Nat) (l : List Cn) : Prop := ∀ p : List Int, p.length = n + 1 → 0 < (e6 p).2.2.2 → (∀ k, k < l.length → 0 ≤ ev (FL l k) (e6 p)) → ∀ x ∈ p, 0 ≤ x
def Lv (l : List Cn) (x3 : List (List Int)) (S : List Nat) : List (List Int) := if OL l S = true then x3 ++ [Vw l S] else x3
theorem akz {n : Nat} {l : List Cn} (h : lJ n l) (xm : NonNeg n l) (x3 : List (List Int)) (hx3 : x3.length < 5864062014805) (S : List Nat) (hS : S.length = n) (hN : ∀ k ∈ S, k < l.length) (a0 : Int) (rB : List (List Int)) (qq tc : Int) (v : List (List Int))
  (f_ : Ev (fun k => aM.l0 k (Lv l x3 S) rB qq (wrap64 (tc + 1)) a0 l) v) (d : Nat) :
  ∀ i : Nat, i + d = S.length → Ev (fun k => aM.l1 k x3 ((S.take i).map (kM l)) rB qq tc (S.map Int.ofNat) (S.length : Int) (i : Int) a0 l) v := by
 have yY : n ≤ 3 := by rcases h.1 with h | h | h <;> omega
 have hll : l.length ≤ 6 := by rcases h.2.1 with h | h | h <;> omega
 induction d with
 | zero =>
  intro i hi
  rw [List.take_of_length_le (by omega)]
  have hsq := ZA h hS hN
  have akA := Vu h.1 _ hsq
  rw [JE] at akA
  refine Ev.step (f := fun k => (aY.f k (S.map (kM l))).bind fun adD => (if adD = [] then (aM.l0 k x3 rB qq (wrap64 (tc + 1)) a0 l) else ((dv.f k l adD).bind fun arA => (if arA = true then (aM.l0 k x3 rB qq (wrap64 (tc + 1)) a0 l) else ((bF.f k adD).bind fun arB => (if x3.length < 5864062014805 then (aM.l0 k (x3 ++ [arB]) rB qq (wrap64 (tc + 1)) a0 l) else (none))))))) (fun k => ?_) (Ev.bind akA ?_)
  ·simp only [aM.l1]
   rw [if_neg (by omega)]
  ·unfold Lv OL at f_
   by_cases c : fB ((S.map (CL l)).map (·.1)) = 0
   ·rw [if_pos c]
    simp only [if_true]
    rw [decide_eq_false (by simpa using c), Bool.false_and, if_neg (by decide)] at f_
    exact f_
   ·rw [if_neg c]
    have hlc : (S.map (CL l)).length = n := by simp [hS]
    have hl : (fc (S.map (CL l))).length = n + 1 := by rw [n3, hlc]
    have fv : fc (S.map (CL l)) ≠ [] := fun e => by rw [e] at hl; simp at hl
    simp only [if_neg fv]
    have ZB := Lu h.1 _ hsq
    rw [JE] at ZB
    have hcp := pP h.1 hlc c
    rw [decide_eq_true (by simpa using c), Bool.true_and] at f_
    refine Ev.bind (OK h hl (fun b hb => by have := ZB b hb; omega)) ?_
    cases ho : JD l (fc (S.map (CL l))) with
    | true =>
     rw [ho] at f_
     simp only [if_true]
     exact f_
    | false =>
     rw [ho] at f_
     simp only [Bool.false_eq_true, if_false]
     have lS := (zx _ _).1 ho
     have hnn := xm _ hl hcp lS
     obtain ⟨x, hx, Fy⟩ := sH h.1 hl hcp
     refine Ev.bind (Vs _ (fun x hx => ⟨hnn x hx, by have := ZB x hx; omega⟩) (by omega) (um hx Fy)) ?_
     simp only [if_pos hx3]
     exact f_
 | succ d ih =>
  intro i hi
  have h1 : i < S.length := by omega
  have hk := hN _ (List.getElem_mem h1)
  have ei : wrap64 ((i : Int) + 1) = ((i + 1 : Nat) : Int) := by unfold wrap64; omega
  have er : rd (S.map Int.ofNat) (i : Int) = ((S[i] : Nat) : Int) := by
   rw [b9 (by simpa using h1)]
   simp
  refine Ev.step (fun k => ?_) (ih (i + 1) (by omega))
  simp only [aM.l1]
  rw [if_pos (by omega), if_pos (by omega), if_pos (by simp; omega), er, if_pos (by omega), if_pos (by omega), if_pos (by simp; omega), ei, List.take_succ_eq_append_getElem h1, List.map_append]
  rfl
theorem akB {n : Nat} {l : List Cn} (h : lJ n l) (xm : NonNeg n l) (L : List (List Nat)) (hL : L.length ≤ 1000) (hLn : ∀ S ∈ L, S.length = n ∧ ∀ k ∈ S, k < l.length) (a0 : Int) (fv : ((L.filter (OL l)).map (Vw l)) ≠ []) (d : Nat) :
  ∀ i : Nat, i + d = L.length → Ev (fun k => aM.l0 k (((L.take i).filter (OL l)).map (Vw l)) (r6 L) (L.length : Int) (i : Int) a0 l) (iV ((L.filter (OL l)).map (Vw l))) := by
 have hle : ∀ M : List (List Nat), ((M.filter (OL l)).map (Vw l)).length ≤ M.length := fun M => by rw [List.length_map]; exact List.length_filter_le _ _
 induction d with
 | zero =>
  intro i hi
  rw [List.take_of_length_le (by omega)]
  refine Ev.step (fun k => ?_) (Ev.now _)
  simp only [aM.l0]
  have := hle L
  rw [if_neg (by omega), if_neg fv, if_pos (by omega)]
 | succ d ih =>
  intro i hi
  have h1 : i < L.length := by omega
  obtain ⟨s1, s2⟩ := hLn _ (List.getElem_mem h1)
  have ei : wrap64 ((i : Int) + 1) = ((i + 1 : Nat) : Int) := by unfold wrap64; omega
  have er : aJ (r6 L) (i : Int) = (L[i]).map Int.ofNat := by
   unfold r6
   simp [aJ, List.getD, List.getElem?_eq_getElem h1]
  have hl1 := hle (L.take i)
  have Po : (L.take i).length ≤ L.length := by simp; omega
  have es : ((L.take (i + 1)).filter (OL l)).map (Vw l) = Lv l (((L.take i).filter (OL l)).map (Vw l)) L[i] := by
   unfold Lv
   rw [List.take_succ_eq_append_getElem h1, List.filter_append, List.map_append]
   by_cases c : OL l L[i] = true
   ·rw [if_pos c]; simp [c]
   ·rw [if_neg c]; simp [c]
  have key := ih (i + 1) (by omega)
  rw [es] at key
  refine Ev.step (f := fun k => aM.l1 k (((L.take i).filter (OL l)).map (Vw l)) (((L[i]).take 0).map (kM l)) (r6 L) (L.length : Int) (i : Int) ((L[i]).map Int.ofNat) ((L[i]).length : Int) ((0 : Nat) : Int) a0 l) (fun k => ?_)
   (akz h xm _ (by omega) L[i] s1 s2 a0 _ _ _ _ ?_ (L[i]).length 0 (by omega))
  ·simp only [aM.l0]
   rw [if_pos (by omega), if_pos (by omega), if_pos (by unfold r6; simp; omega), er]
   simp
  ·rw [ei]
   exact key
theorem Rk (N n : Nat) (h : (n = 1 ∨ n = 2 ∨ n = 3) ∧ (N = n + 1 ∨ N = n + 2 ∨ N = n + 3)) : (zq N n 0).length ≤ 20 := by
 obtain ⟨h1, h2⟩ := h
 rcases h1 with rfl | rfl | rfl <;> rcases h2 with rfl | rfl | rfl <;> decide
theorem Bv {n : Nat} {l : List Cn} (h : lJ n l) (xm : NonNeg n l) (fv : qx l n ≠ []) : Ev (fun k => aM.f k (n : Int) l) (iV (qx l n)) := by
 unfold aM.f
 refine Ev.bind (OF l.length n ⟨h.1, h.2.1⟩) ?_
 have hl := Rk l.length n ⟨h.1, h.2.1⟩
 have := akB h xm (zq l.length n 0) (by omega) (fun S hS => by
  obtain ⟨a, b, c⟩ := (n4 _ _ _ _).1 hS
  exact ⟨a, fun k hk => (c k hk).2⟩) (n : Int) fv (zq l.length n 0).length 0 (by omega)
 refine Ev.congr (fun k => ?_) this
 simp only [r6, List.length_map]
 rfl
theorem Fz : ∀ {a b : List Int}, a.length = b.length → (gm a b < 0 ↔ iq a b = true)
 | [], [], _ => by simp [gm, iq]
 | [], _ :: _, h => by simp at h
 | _ :: _, [], h => by simp at h
 | x :: a, y :: b, h => by
  have ih := Fz (a := a) (b := b) (by simpa using h)
  simp only [gm, iq]
  by_cases e : x = y
  ·subst e
   simp only [Int.lt_irrefl, if_false, if_true]
   exact ih
  ·rw [if_neg e]
   by_cases c : x < y
   ·simp [c]
   ·rw [if_neg c, if_pos (show y < x by omega)]
    simp [c]
theorem r7 {n : Nat} {l : List Cn} (h : lJ n l) : qa (iV (qx l n)) := by
 refine (mS (qx l n)).imp_of_mem fun {a b} ha hb Lo => ?_
 rw [jw] at ha hb
 exact (Fz (by rw [((nF h a).1 ha).1, ((nF h b).1 hb).1])).1 Lo
theorem xG {n : Nat} {l : List Cn} (h : lJ n l) (p : List Int) : p ∈ iV (qx l n) ↔ eX (FL l) l.length n p := by
 rw [jw, nF h]
theorem adE {n : Nat} {l : List Cn} (h : lJ n l) (p : List Int) (hp : p.length = n + 1) (hy : ∀ b ∈ p, b.natAbs ≤ 1000000000) (d : Nat) :
  ∀ i : Nat, i + d = l.length → Ev (fun k => aV.l0 k p (((List.range i).filter fun j => decide (ev (FL l j) (e6 p) = 0)).map Int.ofNat) l (l.length : Int) (i : Int)) ((jL (FL l) l.length (e6 p)).map Int.ofNat) := by
 have hll : l.length ≤ 6 := by rcases h.1 with e | e | e <;> rcases h.2.1 with h | h | h <;> omega
 induction d with
 | zero =>
  intro i hi
  obtain rfl : i = l.length := by omega
  refine Ev.step (fun k => ?_) (Ev.now _)
  simp only [aV.l0]
  rw [if_neg (by omega)]
  rfl
 | succ d ih =>
  intro i hi
  have h1 : i < l.length := by omega
  have ei : wrap64 ((i : Int) + 1) = ((i + 1 : Nat) : Int) := by unfold wrap64; omega
  have key := ih (i + 1) (by omega)
  rw [List.range_succ, List.filter_append, List.map_append] at key
  have hle : (((List.range i).filter fun j => decide (ev (FL l j) (e6 p) = 0)).map Int.ofNat).length ≤ i := by
   rw [List.length_map]
   exact Nat.le_trans (List.length_filter_le _ _) (by simp)
  refine Ev.step (f := fun k => (b4.f k (kM l i).f0 (kM l i).f1 (kM l i).f2 p).bind fun arC => (if arC = 0 then (if (((List.range i).filter fun j => decide (ev (FL l j) (e6 p) = 0)).map Int.ofNat).length < 17592186044416 then (aV.l0 k p ((((List.range i).filter fun j => decide (ev (FL l j) (e6 p) = 0)).map Int.ofNat) ++ [(i : Int)]) l (l.length : Int) (wrap64 ((i : Int) + 1))) else (none)) else (aV.l0 k p (((List.range i).filter fun j => decide (ev (FL l j) (e6 p) = 0)).map Int.ofNat) l (l.length : Int) (wrap64 ((i : Int) + 1))))) (fun k => ?_) (Ev.bind (Fw h hp hy h1) ?_)
  ·simp only [aV.l0]
   rw [if_pos (by omega), if_pos (by omega), if_pos (by omega)]
   rfl
  ·rw [ei]
   have e0 : told (kM l i).f2 (D5 (kM l i).f0 (kM l i).f1 p) = 0 ↔ ev (FL l i) (e6 p) = 0 := by
    rw [OJ, Yz h hp h1, Ri]
   by_cases c : ev (FL l i) (e6 p) = 0
   ·simp only [if_pos (e0.2 c)]
    refine Ev.congr (fun k => by rw [if_pos (by omega)]) ?_
    simpa [c] using key
   ·simp only [if_neg (fun e => c (e0.1 e))]
    simpa [c] using key
theorem GB {n : Nat} {l : List Cn} (h : lJ n l) (p : List Int) (hp : p.length = n + 1) (hy : ∀ b ∈ p, b.natAbs ≤ 1000000000) (a0 : Int) : Ev (fun k => aV.f k a0 l p) ((jL (FL l) l.length (e6 p)).map Int.ofNat) :=
 adE h p hp hy l.length 0 (by omega)
end Go.Proofs.YtggiicplcglalaaGreat.GmImp
end
