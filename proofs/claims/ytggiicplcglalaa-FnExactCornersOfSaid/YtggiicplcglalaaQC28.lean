/- Part of the proof that the law FnExactCornersOf answers true for all arguments. -/
import Derived.Test.YtggiicplcglalaaQC27
section
namespace Go.Proofs.Ytggiicplcglalaa.LH
set_option linter.unusedSectionVars false
set_option autoImplicit true
set_option linter.unusedVariables false
abbrev Cd := List Int × Int
def pad (s : Int) : Cd → H
 | ([a], t) => (s * a, 0, 0, -(s * t))
 | ([a, b], t) => (s * a, s * b, 0, -(s * t))
 | ([a, b, c], t) => (s * a, s * b, s * c, -(s * t))
 | _ => (0, 0, 0, 0)
def det2 (a b : List Int) : Int := match a, b with
 | [a1, a2], [b1, b2] => a1 * b2 - a2 * b1
 | _, _ => 0
def detL3 (a b c : List Int) : Int := match a, b, c with
 | [a1, a2, a3], [b1, b2, b3], [c1, c2, c3] => a1 * (b2 * c3 - b3 * c2) - a2 * (b1 * c3 - b3 * c1) + a3 * (b1 * c2 - b2 * c1)
 | _, _, _ => 0
def detL : List (List Int) → Int
 | [[a]] => a
 | [a, b] => det2 a b
 | [a, b, c] => detL3 a b c
 | _ => 0
def colPut (c : Nat) (S : List Cd) : List (List Int) := S.map fun x => x.1.set c x.2
def cand (S : List Cd) : List Int :=
 let d := detL (S.map (·.1))
 ((List.range S.length).map fun c => if d < 0 then -detL (colPut c S) else detL (colPut c S)) ++ [(d.natAbs : Int)]
theorem cand_len (S : List Cd) : (cand S).length = S.length + 1 := by simp [cand]
theorem natAbs_neg {d : Int} (h : d < 0) : (d.natAbs : Int) = -d := by omega
theorem natAbs_pos' {d : Int} (h : ¬ d < 0) : (d.natAbs : Int) = d := by omega
theorem cand1 (a : Cd) (h : a.1.length = 1) (s : Int) (hs : s = 1 ∨ s = -1) :
  ev (pad s a) (emb (cand [a])) = 0 ∧ det3 (pad s a) (unitH 1) (unitH 2) = s * detL [a.1] := by
 obtain ⟨l, t⟩ := a
 obtain ⟨a1, rfl⟩ := len1 h
 simp only [cand, detL, colPut, List.length_cons, List.length_nil, List.range, List.range.loop, List.map_cons, List.map_nil, List.set_cons_zero, List.cons_append, List.nil_append, emb, pad, ev, det3, unitH]
 by_cases hd : a1 < 0
 ·rw [if_pos hd, natAbs_neg hd]; constructor <;> grind
 ·rw [if_neg hd, natAbs_pos' hd]; constructor <;> grind
theorem cand2 (a b : Cd) (ha : a.1.length = 2) (hb : b.1.length = 2) (s u : Int) :
  ev (pad s a) (emb (cand [a, b])) = 0 ∧ ev (pad u b) (emb (cand [a, b])) = 0 ∧ det3 (pad s a) (pad u b) (unitH 2) = s * u * detL [a.1, b.1] := by
 obtain ⟨l, t⟩ := a
 obtain ⟨k, r⟩ := b
 obtain ⟨a1, a2, rfl⟩ := len2 ha
 obtain ⟨b1, b2, rfl⟩ := len2 hb
 simp only [cand, detL, det2, colPut, List.length_cons, List.length_nil, List.range, List.range.loop, List.map_cons, List.map_nil, List.set_cons_zero, List.set_cons_succ, List.cons_append, List.nil_append, emb, pad, ev, det3, unitH]
 by_cases hd : a1 * b2 - a2 * b1 < 0
 ·simp only [if_pos hd, natAbs_neg hd]; refine ⟨?_, ?_, ?_⟩ <;> grind
 ·simp only [if_neg hd, natAbs_pos' hd]; refine ⟨?_, ?_, ?_⟩ <;> grind
theorem cand3 (a b c : Cd) (ha : a.1.length = 3) (hb : b.1.length = 3) (hc : c.1.length = 3) (s u v : Int) :
  ev (pad s a) (emb (cand [a, b, c])) = 0 ∧ ev (pad u b) (emb (cand [a, b, c])) = 0 ∧ ev (pad v c) (emb (cand [a, b, c])) = 0 ∧ det3 (pad s a) (pad u b) (pad v c) = s * u * v * detL [a.1, b.1, c.1] := by
 obtain ⟨l, t⟩ := a
 obtain ⟨k, r⟩ := b
 obtain ⟨m, q⟩ := c
 obtain ⟨a1, a2, a3, rfl⟩ := len3 ha
 obtain ⟨b1, b2, b3, rfl⟩ := len3 hb
 obtain ⟨c1, c2, c3, rfl⟩ := len3 hc
 simp only [cand, detL, detL3, colPut, List.length_cons, List.length_nil, List.range, List.range.loop, List.map_cons, List.map_nil, List.set_cons_zero, List.set_cons_succ, List.cons_append, List.nil_append, emb, pad, ev, det3]
 by_cases hd : a1 * (b2 * c3 - b3 * c2) - a2 * (b1 * c3 - b3 * c1) + a3 * (b1 * c2 - b2 * c1) < 0
 ·simp only [if_pos hd, natAbs_neg hd]; refine ⟨?_, ?_, ?_, ?_⟩ <;> grind
 ·simp only [if_neg hd, natAbs_pos' hd]; refine ⟨?_, ?_, ?_, ?_⟩ <;> grind
def gcdL (q : List Int) : Nat := q.foldl (fun d x => Nat.gcd d x.natAbs) 0
def red (q : List Int) : List Int := q.map fun x => x / (gcdL q : Int)
theorem foldl_gcd (q : List Int) : ∀ d : Nat, (∀ x ∈ q, (q.foldl (fun d x => Nat.gcd d x.natAbs) d : Nat) ∣ x.natAbs) ∧ q.foldl (fun d x => Nat.gcd d x.natAbs) d ∣ d := by
 induction q with
 | nil => intro d; exact ⟨by simp, Nat.dvd_refl _⟩
 | cons a q ih =>
  intro d
  obtain ⟨h1, h2⟩ := ih (Nat.gcd d a.natAbs)
  refine ⟨fun x hx => ?_, Nat.dvd_trans h2 (Nat.gcd_dvd_left _ _)⟩
  rcases List.mem_cons.mp hx with e | e
  ·subst e; exact Nat.dvd_trans h2 (Nat.gcd_dvd_right _ _)
  ·exact h1 x e
theorem gcdL_dvd {q : List Int} {x : Int} (h : x ∈ q) : (gcdL q : Int) ∣ x := Int.ofNat_dvd_left.mpr ((foldl_gcd q 0).1 x h)
theorem red_mul {q : List Int} {x : Int} (h : x ∈ q) : (gcdL q : Int) * (x / (gcdL q : Int)) = x := Int.mul_ediv_cancel' (gcdL_dvd h)
theorem gcdL_pos {q : List Int} {x : Int} (h : x ∈ q) (hx : 0 < x) : 0 < gcdL q := by
 have := (foldl_gcd q 0).1 x h
 exact Nat.pos_of_dvd_of_pos this (by omega)
theorem emb_red {dim : Nat} (hd : dim = 1 ∨ dim = 2 ∨ dim = 3) {q : List Int} (hq : q.length = dim + 1) :
  emb q = ((gcdL q : Int) * (emb (red q)).1, (gcdL q : Int) * (emb (red q)).2.1, (gcdL q : Int) * (emb (red q)).2.2.1, (gcdL q : Int) * (emb (red q)).2.2.2) := by
 have h : ∀ x ∈ q, (gcdL q : Int) * (x / (gcdL q : Int)) = x := fun x hx => red_mul hx
 rcases hd with rfl | rfl | rfl
 ·obtain ⟨a, d, rfl⟩ := len2 hq
  simp only [red, List.map_cons, List.map_nil, emb]
  rw [h a (by simp), h d (by simp)]; simp
 ·obtain ⟨a, b, d, rfl⟩ := len3 hq
  simp only [red, List.map_cons, List.map_nil, emb]
  rw [h a (by simp), h b (by simp), h d (by simp)]; simp
 ·obtain ⟨a, b, c, d, rfl⟩ := len4 hq
  simp only [red, List.map_cons, List.map_nil, emb]
  rw [h a (by simp), h b (by simp), h c (by simp), h d (by simp)]
theorem gcd4_red {dim : Nat} (hd : dim = 1 ∨ dim = 2 ∨ dim = 3) {q : List Int} (hq : q.length = dim + 1) (hp : 0 < (emb q).2.2.2) : gcd4 (emb (red q)) = 1 := by
 have e := emb_red hd hq
 have hpos : 0 < gcdL q := by
  rcases Nat.eq_zero_or_pos (gcdL q) with h | h
  ·rw [e, h] at hp; simp at hp
  ·exact h
 have hg : gcd4 (emb q) = gcdL q := by
  rcases hd with rfl | rfl | rfl
  ·obtain ⟨a, d, rfl⟩ := len2 hq; simp [emb, gcd4, gcdL]
  ·obtain ⟨a, b, d, rfl⟩ := len3 hq; simp [emb, gcd4, gcdL]
  ·obtain ⟨a, b, c, d, rfl⟩ := len4 hq; simp [emb, gcd4, gcdL]
 have h := gcd4_mul (gcdL q : Int) (emb (red q))
 rw [← e, hg, Int.natAbs_natCast] at h
 have : gcdL q * 1 = gcdL q * gcd4 (emb (red q)) := by rw [Nat.mul_one]; exact h
 exact (Nat.eq_of_mul_eq_mul_left hpos this).symm
theorem red_len (q : List Int) : (red q).length = q.length := by simp [red]
theorem red_pos {dim : Nat} (hd : dim = 1 ∨ dim = 2 ∨ dim = 3) {q : List Int} (hq : q.length = dim + 1) (hp : 0 < (emb q).2.2.2) : 0 < (emb (red q)).2.2.2 := by
 have hp' : 0 < (gcdL q : Int) * (emb (red q)).2.2.2 := by rw [emb_red hd hq] at hp; exact hp
 rcases Nat.eq_zero_or_pos (gcdL q) with h | h
 ·rw [h] at hp'; simp at hp'
 ·exact Int.pos_of_mul_pos_right hp' (by omega)
theorem ev_red {dim : Nat} (hd : dim = 1 ∨ dim = 2 ∨ dim = 3) {q : List Int} (hq : q.length = dim + 1) (f : H) : ev f (emb q) = (gcdL q : Int) * ev f (emb (red q)) := by
 rw [← ev_scale, ← emb_red hd hq]
def Inc : List Nat → Prop
 | [] => True
 | [_] => True
 | a :: b :: S => a < b ∧ Inc (b :: S)
theorem sort_of {F : Nat → H} {dim : Nat} (hd : dim = 1 ∨ dim = 2 ∨ dim = 3) {S : List Nat} (hS : S.length = dim) (h : detS F S ≠ 0) :
  ∃ T : List Nat, T.length = dim ∧ Inc T ∧ (∀ k, k ∈ T ↔ k ∈ S) ∧ detS F T ≠ 0 := by
 have hn := detS_nodup hd hS h
 rcases hd with rfl | rfl | rfl
 ·obtain ⟨a, rfl⟩ := len1 hS
  exact ⟨[a], rfl, trivial, fun _ => Iff.rfl, h⟩
 ·obtain ⟨a, b, rfl⟩ := len2 hS
  have hab : a ≠ b := by simpa using hn
  by_cases c : a < b
  ·exact ⟨[a, b], rfl, ⟨c, trivial⟩, fun _ => Iff.rfl, h⟩
  ·refine ⟨[b, a], rfl, ⟨by omega, trivial⟩, fun k => by simp [or_comm], ?_⟩
   have h' : det3 (F a) (F b) (unitH 2) ≠ 0 := h
   show det3 (F b) (F a) (unitH 2) ≠ 0
   intro e
   apply h'
   rw [det3_rot, det3_swap, e]; rfl
 ·obtain ⟨a, b, c, rfl⟩ := len3 hS
  have h' : det3 (F a) (F b) (F c) ≠ 0 := h
  simp only [List.nodup_cons, List.mem_cons, List.not_mem_nil, or_false, not_or, List.nodup_nil, and_true, not_false_eq_true] at hn
  obtain ⟨⟨h1, h2⟩, h3⟩ := hn
  have r1 : ∀ x y z, det3 x y z ≠ 0 → det3 y z x ≠ 0 := fun x y z h => by rw [← det3_rot]; exact h
  have r2 : ∀ x y z, det3 x y z ≠ 0 → det3 x z y ≠ 0 := fun x y z h e => h (by rw [det3_swap, e]; rfl)
  by_cases c1 : a < b
  ·by_cases c2 : b < c
   ·exact ⟨[a, b, c], rfl, ⟨c1, c2, trivial⟩, fun _ => Iff.rfl, h⟩
   ·by_cases c3 : a < c
    ·exact ⟨[a, c, b], rfl, ⟨c3, by omega, trivial⟩, fun k => by simp only [List.mem_cons, List.not_mem_nil, or_false]; omega, r2 _ _ _ h'⟩
    ·exact ⟨[c, a, b], rfl, ⟨by omega, c1, trivial⟩, fun k => by simp only [List.mem_cons, List.not_mem_nil, or_false]; omega, r1 _ _ _ (r1 _ _ _ h')⟩
  ·by_cases c2 : a < c
   ·exact ⟨[b, a, c], rfl, ⟨by omega, c2, trivial⟩, fun k => by simp only [List.mem_cons, List.not_mem_nil, or_false]; omega, r2 _ _ _ (r1 _ _ _ h')⟩
   ·by_cases c3 : b < c
    ·exact ⟨[b, c, a], rfl, ⟨c3, by omega, trivial⟩, fun k => by simp only [List.mem_cons, List.not_mem_nil, or_false]; omega, r1 _ _ _ h'⟩
    ·exact ⟨[c, b, a], rfl, ⟨by omega, by omega, trivial⟩, fun k => by simp only [List.mem_cons, List.not_mem_nil, or_false]; omega, r2 _ _ _ (r1 _ _ _ (r1 _ _ _ h'))⟩
def Tells (F : Nat → H) (C : Nat → Cd) (N dim : Nat) : Prop := ∀ k, k < N → (C k).1.length = dim ∧ ∃ s : Int, (s = 1 ∨ s = -1) ∧ F k = pad s (C k)
theorem cand_meets {F : Nat → H} {C : Nat → Cd} {N dim : Nat} (hT : Tells F C N dim) (hd : dim = 1 ∨ dim = 2 ∨ dim = 3) {S : List Nat} (hS : S.length = dim) (hN : ∀ k ∈ S, k < N) :
  (∀ k ∈ S, ev (F k) (emb (cand (S.map C))) = 0) ∧ (detS F S ≠ 0 ↔ detL ((S.map C).map (·.1)) ≠ 0) := by
 have neg : ∀ s x : Int, (s = 1 ∨ s = -1) → (s * x ≠ 0 ↔ x ≠ 0) := by intro s x h; rcases h with rfl | rfl <;> omega
 rcases hd with rfl | rfl | rfl
 ·obtain ⟨a, rfl⟩ := len1 hS
  obtain ⟨l1, s, hs, e1⟩ := hT a (hN a (by simp))
  obtain ⟨h1, h2⟩ := cand1 (C a) l1 s hs
  constructor
  ·intro k hk
   have : k = a := by simpa using hk
   subst this
   rw [e1]; exact h1
  ·show det3 (F a) (unitH 1) (unitH 2) ≠ 0 ↔ _
   rw [e1, h2]; exact neg _ _ hs
 ·obtain ⟨a, b, rfl⟩ := len2 hS
  obtain ⟨l1, s, hs, e1⟩ := hT a (hN a (by simp))
  obtain ⟨l2, u, hu, e2⟩ := hT b (hN b (by simp))
  obtain ⟨h1, h2, h3⟩ := cand2 (C a) (C b) l1 l2 s u
  constructor
  ·intro k hk
   have : k = a ∨ k = b := by simpa using hk
   rcases this with rfl | rfl
   ·rw [e1]; exact h1
   ·rw [e2]; exact h2
  ·show det3 (F a) (F b) (unitH 2) ≠ 0 ↔ _
   rw [e1, e2, h3]; exact neg _ _ (by rcases hs with rfl | rfl <;> rcases hu with rfl | rfl <;> simp)
 ·obtain ⟨a, b, c, rfl⟩ := len3 hS
  obtain ⟨l1, s, hs, e1⟩ := hT a (hN a (by simp))
  obtain ⟨l2, u, hu, e2⟩ := hT b (hN b (by simp))
  obtain ⟨l3, v, hv, e3⟩ := hT c (hN c (by simp))
  obtain ⟨h1, h2, h3, h4⟩ := cand3 (C a) (C b) (C c) l1 l2 l3 s u v
  constructor
  ·intro k hk
   have : k = a ∨ k = b ∨ k = c := by simpa using hk
   rcases this with rfl | rfl | rfl
   ·rw [e1]; exact h1
   ·rw [e2]; exact h2
   ·rw [e3]; exact h3
  ·show det3 (F a) (F b) (F c) ≠ 0 ↔ _
   rw [e1, e2, e3, h4]; exact neg _ _ (by rcases hs with rfl | rfl <;> rcases hu with rfl | rfl <;> rcases hv with rfl | rfl <;> simp)
theorem cand_pos {dim : Nat} (hd : dim = 1 ∨ dim = 2 ∨ dim = 3) {S : List Cd} (hS : S.length = dim) (h : detL (S.map (·.1)) ≠ 0) : 0 < (emb (cand S)).2.2.2 := by
 have hp : (0 : Int) < ((detL (S.map (·.1))).natAbs : Int) := by omega
 rcases hd with rfl | rfl | rfl
 ·obtain ⟨a, rfl⟩ := len1 hS; exact hp
 ·obtain ⟨a, b, rfl⟩ := len2 hS; exact hp
 ·obtain ⟨a, b, c, rfl⟩ := len3 hS; exact hp
theorem corner_iff {F : Nat → H} {C : Nat → Cd} {N dim : Nat} (hT : Tells F C N dim) (hd : dim = 1 ∨ dim = 2 ∨ dim = 3) (p : List Int) :
  IsCorner F N dim p ↔ ∃ S : List Nat, S.length = dim ∧ Inc S ∧ (∀ k ∈ S, k < N) ∧ detL ((S.map C).map (·.1)) ≠ 0 ∧ (∀ k, k < N → 0 ≤ ev (F k) (emb (cand (S.map C)))) ∧ p = red (cand (S.map C)) := by
 constructor
 ·rintro ⟨h1, h2, h3, h4, S, hS, hS0, hdet⟩
  obtain ⟨T, t1, t2, t3, t4⟩ := sort_of hd hS hdet
  have tN : ∀ k ∈ T, k < N := fun k hk => (hS0 k ((t3 k).mp hk)).1
  obtain ⟨m1, m2⟩ := cand_meets hT hd t1 tN
  have hl : (T.map C).length = dim := by simp [t1]
  have cl : (cand (T.map C)).length = dim + 1 := by rw [cand_len, hl]
  have cp := cand_pos hd hl (m2.mp t4)
  have rl : (red (cand (T.map C))).length = dim + 1 := by rw [red_len, cl]
  have hg : ∀ f, ev f (emb (cand (T.map C))) = (gcdL (cand (T.map C)) : Int) * ev f (emb (red (cand (T.map C)))) := fun f => ev_red hd cl f
  have hgp : (0 : Int) < (gcdL (cand (T.map C)) : Int) := by
   have e := emb_red hd cl
   rw [e] at cp
   rcases Nat.eq_zero_or_pos (gcdL (cand (T.map C))) with h | h
   ·rw [h] at cp; simp at cp
   ·omega
  have e : p = red (cand (T.map C)) := corner_unique (N := N) hd t1 t4 h1 rl h2 (red_pos hd cl cp) h3 (gcd4_red hd cl cp) (fun k hk => (hS0 k ((t3 k).mp hk)).2) (fun k hk => by
   have := m1 k hk
   rw [hg] at this
   rcases Int.mul_eq_zero.mp this with c | c
   ·omega
   ·exact c)
  refine ⟨T, t1, t2, tN, m2.mp t4, fun k hk => ?_, e⟩
  rw [hg, ← e]
  exact Int.mul_nonneg (by omega) (h4 k hk)
 ·rintro ⟨S, hS, hI, hN, hdet, hin, rfl⟩
  obtain ⟨m1, m2⟩ := cand_meets hT hd hS hN
  have hl : (S.map C).length = dim := by simp [hS]
  have cl : (cand (S.map C)).length = dim + 1 := by rw [cand_len, hl]
  have cp := cand_pos hd hl hdet
  have hg : ∀ f, ev f (emb (cand (S.map C))) = (gcdL (cand (S.map C)) : Int) * ev f (emb (red (cand (S.map C)))) := fun f => ev_red hd cl f
  have hgp : (0 : Int) < (gcdL (cand (S.map C)) : Int) := by
   have e := emb_red hd cl
   rw [e] at cp
   rcases Nat.eq_zero_or_pos (gcdL (cand (S.map C))) with h | h
   ·rw [h] at cp; simp at cp
   ·omega
  refine ⟨by rw [red_len, cl], red_pos hd cl cp, gcd4_red hd cl cp, fun k hk => ?_, S, hS, fun k hk => ⟨hN k hk, ?_⟩, m2.mpr hdet⟩
  ·have := hin k hk
   rw [hg] at this
   exact Int.nonneg_of_mul_nonneg_right this hgp
  ·have := m1 k hk
   rw [hg] at this
   rcases Int.mul_eq_zero.mp this with c | c
   ·omega
   ·exact c
def lexlt : List Int → List Int → Bool
 | a :: l, b :: m => if a = b then lexlt l m else decide (a < b)
 | _, _ => false
theorem lexlt_irrefl : ∀ l : List Int, lexlt l l = false
 | [] => rfl
 | a :: l => by simp [lexlt, lexlt_irrefl l]
theorem lexlt_trans : ∀ {a b c : List Int}, lexlt a b = true → lexlt b c = true → lexlt a c = true
 | [], _, _, h, _ => by simp [lexlt] at h
 | _ :: _, [], _, h, _ => by simp [lexlt] at h
 | _ :: _, _ :: _, [], _, h => by simp [lexlt] at h
 | x :: a, y :: b, z :: c, h1, h2 => by
  simp only [lexlt] at *
  by_cases e1 : x = y
  ·subst e1
   by_cases e2 : x = z
   ·subst e2; simp only [if_true] at *; exact lexlt_trans h1 h2
   ·rw [if_neg e2] at h2 ⊢; exact h2
  ·rw [if_neg e1] at h1
   by_cases e2 : y = z
   ·subst e2; rw [if_neg e1]; exact h1
   ·rw [if_neg e2] at h2
    have a1 := of_decide_eq_true h1
    have a2 := of_decide_eq_true h2
    rw [if_neg (by omega)]
    exact decide_eq_true (by omega)
theorem lexlt_total : ∀ {a b : List Int}, a.length = b.length → a ≠ b → lexlt a b = true ∨ lexlt b a = true
 | [], [], _, h => absurd rfl h
 | [], _ :: _, h, _ => by simp at h
 | _ :: _, [], h, _ => by simp at h
 | x :: a, y :: b, hl, hne => by
  simp only [lexlt]
  by_cases e : x = y
  ·subst e
   simp only [if_true]
   exact lexlt_total (by simpa using hl) (fun e => hne (by rw [e]))
  ·rw [if_neg e, if_neg (fun h => e h.symm)]
   rcases Int.lt_or_gt_of_ne e with h | h
   ·exact .inl (decide_eq_true h)
   ·exact .inr (decide_eq_true h)
def Sorted (L : List (List Int)) : Prop := L.Pairwise fun a b => lexlt a b = true
theorem sorted_ext : ∀ {L M : List (List Int)}, Sorted L → Sorted M → (∀ p, p ∈ L ↔ p ∈ M) → L = M
 | [], [], _, _, _ => rfl
 | [], b :: M, _, _, h => by have := (h b).mpr (by simp); simp at this
 | a :: L, [], _, _, h => by have := (h a).mp (by simp); simp at this
 | a :: L, b :: M, hL, hM, h => by
  obtain ⟨a1, a2⟩ := List.pairwise_cons.mp hL
  obtain ⟨b1, b2⟩ := List.pairwise_cons.mp hM
  have e : a = b := by
   have x := (h a).mp (by simp)
   have y := (h b).mpr (by simp)
   rcases List.mem_cons.mp x with x | x
   ·exact x
   ·rcases List.mem_cons.mp y with y | y
    ·exact y.symm
    ·have := lexlt_trans (b1 a x) (a1 b y)
     rw [lexlt_irrefl] at this
     exact absurd this (by decide)
  subst e
  rw [sorted_ext a2 b2 (fun p => ?_)]
  constructor
  ·intro hp
   rcases List.mem_cons.mp ((h p).mp (List.mem_cons_of_mem _ hp)) with e | e
   ·subst e
    have := a1 p hp
    rw [lexlt_irrefl] at this
    exact absurd this (by decide)
   ·exact e
  ·intro hp
   rcases List.mem_cons.mp ((h p).mpr (List.mem_cons_of_mem _ hp)) with e | e
   ·subst e
    have := b1 p hp
    rw [lexlt_irrefl] at this
    exact absurd this (by decide)
   ·exact e
end Go.Proofs.Ytggiicplcglalaa.LH
end
section
namespace Go.Proofs.Ytggiicplcglalaa.GmRed
open Go.RowKit Go.Proofs.Ytggiicplcglalaa.All Go.Proofs.YtggiicplcglalaaW.PrintWords Go.Proofs.YtggiicplcglalaaW.PrintLast Go.Proofs.Ytggiicplcglalaa.Eqs Go.Proofs.Ytggiicplcglalaa.GmDet Go.Proofs.Ytggiicplcglalaa.LH
theorem gcd_down (a b : Nat) : Nat.gcd b (a % b) = Nat.gcd a b := by
 rw [Nat.gcd_comm b (a % b), Nat.gcd_comm a b, ← Nat.gcd_rec]
theorem specGcd : ∀ (b a : Nat), Ev (fun k => spec_gmGcd.f k (a : Int) (b : Int)) ((Nat.gcd a b : Nat) : Int) := by
 intro b
 induction b using Nat.strongRecOn with
 | _ b ih =>
  intro a
  by_cases h : b = 0
  ·subst h
   rw [Nat.gcd_zero_right]
   exact Ev.step (fun k => by simp only [spec_gmGcd.f, spec_gmGcd.l0]; rw [if_pos (show ((0 : Nat) : Int) = 0 from rfl)]) (Ev.now _)
  ·have := ih (a % b) (Nat.mod_lt _ (by omega)) b
   rw [gcd_down] at this
   refine Ev.step (fun k => ?_) this
   simp only [spec_gmGcd.f, spec_gmGcd.l0]
   rw [if_neg (by omega)]
   rfl
theorem implGcd : ∀ (b a : Nat), Ev (fun k => impl_gcd.f k (a : Int) (b : Int)) ((Nat.gcd a b : Nat) : Int) := by
 intro b
 induction b using Nat.strongRecOn with
 | _ b ih =>
  intro a
  by_cases h : b = 0
  ·subst h
   rw [Nat.gcd_zero_right]
   exact Ev.step (fun k => by simp only [impl_gcd.f, impl_gcd.l0]; rw [if_pos (show ((0 : Nat) : Int) = 0 from rfl)]) (Ev.now _)
  ·have := ih (a % b) (Nat.mod_lt _ (by omega)) b
   rw [gcd_down] at this
   refine Ev.step (fun k => ?_) this
   simp only [impl_gcd.f, impl_gcd.l0]
   rw [if_neg (by omega)]
   rfl
def gcdTo (q : List Int) (d : Nat) : Nat := q.foldl (fun d x => Nat.gcd d x.natAbs) d
theorem red_l1 (q : List Int) (hq : ∀ x ∈ q, 0 ≤ x ∧ x < 4611686018427387904) (hl : q.length ≤ 1000) (g : Nat) (hg : 0 < g) (d : Nat) :
  ∀ i : Nat, i + d = q.length → Ev (fun k => impl_reduced.l1 k (g : Int) ((q.take i).map fun x => x / (g : Int)) q (q.length : Int) (i : Int)) (q.map fun x => x / (g : Int)) := by
 induction d with
 | zero =>
  intro i hi
  rw [List.take_of_length_le (by omega)]
  exact Ev.step (fun k => by simp only [impl_reduced.l1]; rw [if_neg (by omega)]) (Ev.now _)
 | succ d ih =>
  intro i hi
  have h1 : i < q.length := by omega
  obtain ⟨x0, x1⟩ := hq _ (List.getElem_mem h1)
  have ei : wrap64 ((i : Int) + 1) = ((i + 1 : Nat) : Int) := by unfold wrap64; omega
  have em : mx (g : Int) 1 = (g : Int) := by unfold mx; split <;> omega
  have hd0 : 0 ≤ q[i] / (g : Int) := Int.ediv_nonneg x0 (by omega)
  have hd1 : q[i] / (g : Int) ≤ q[i] := Int.ediv_le_self _ x0
  have et : wrap64 (Int.tdiv q[i] (g : Int)) = q[i] / (g : Int) := by
   rw [Int.tdiv_eq_ediv_of_nonneg x0]
   exact wrap_id (by omega) (by omega)
  refine Ev.step (fun k => ?_) (ih (i + 1) (by omega))
  simp only [impl_reduced.l1]
  rw [if_pos (by omega), if_pos (by omega), if_pos (by omega), em, if_neg (by omega), if_pos (by simp; omega), rd_getElem h1, et, ei, List.take_succ_eq_append_getElem h1, List.map_append]
  rfl
theorem red_l0 (q : List Int) (hq : ∀ x ∈ q, 0 ≤ x ∧ x < 4611686018427387904) (hl : q.length ≤ 1000) (hg : 0 < gcdL q) (d : Nat) :
  ∀ (i : Nat), i + d = q.length → Ev (fun k => impl_reduced.l0 k q ((gcdTo (q.take i) 0 : Nat) : Int) [] q (q.length : Int) (i : Int)) (red q) := by
 induction d with
 | zero =>
  intro i hi
  rw [List.take_of_length_le (by omega)]
  refine Ev.step (fun k => ?_) (red_l1 q hq hl (gcdL q) hg q.length 0 (by omega))
  simp only [impl_reduced.l0]
  rw [if_neg (by omega)]
  rfl
 | succ d ih =>
  intro i hi
  have h1 : i < q.length := by omega
  obtain ⟨x0, x1⟩ := hq _ (List.getElem_mem h1)
  have ei : wrap64 ((i : Int) + 1) = ((i + 1 : Nat) : Int) := by unfold wrap64; omega
  have key := ih (i + 1) (by omega)
  have hs : gcdTo (q.take (i + 1)) 0 = Nat.gcd (gcdTo (q.take i) 0) q[i].natAbs := by
   unfold gcdTo
   rw [List.take_succ_eq_append_getElem h1, List.foldl_append]
   rfl
  rw [hs] at key
  have hx : q[i] = (q[i].natAbs : Int) := by omega
  refine Ev.step (f := fun k => (impl_gcd.f k ((gcdTo (q.take i) 0 : Nat) : Int) (q[i].natAbs : Int)).bind fun t => impl_reduced.l0 k q t [] q (q.length : Int) ((i + 1 : Nat) : Int)) (fun k => ?_) (Ev.bind (implGcd _ _) key)
  simp only [impl_reduced.l0]
  rw [if_pos (by omega), if_pos (by omega), if_pos (by omega), rd_getElem h1, ei, ← hx]
theorem implRed (q : List Int) (hq : ∀ x ∈ q, 0 ≤ x ∧ x < 4611686018427387904) (hl : q.length ≤ 1000) (hg : 0 < gcdL q) : Ev (fun k => impl_reduced.f k q) (red q) :=
 red_l0 q hq hl hg q.length 0 (by omega)
theorem detN_L {n : Nat} (hn : n = 1 ∨ n = 2 ∨ n = 3) {M : List (List Int)} (hM : M.length = n) (hr : ∀ r ∈ M, r.length = n) : detN n M = detL M := by
 rcases hn with rfl | rfl | rfl
 ·obtain ⟨r, rfl⟩ := len1 hM
  obtain ⟨a, rfl⟩ := len1 (hr r (by simp))
  exact detN1 a
 ·obtain ⟨r, s, rfl⟩ := len2 hM
  obtain ⟨a, b, rfl⟩ := len2 (hr r (by simp))
  obtain ⟨c, d, rfl⟩ := len2 (hr s (by simp))
  rw [detN2]
  simp only [detL, det2]
 ·obtain ⟨r, s, t, rfl⟩ := len3 hM
  obtain ⟨a, b, c, rfl⟩ := len3 (hr r (by simp))
  obtain ⟨d, e, f, rfl⟩ := len3 (hr s (by simp))
  obtain ⟨g, h, i, rfl⟩ := len3 (hr t (by simp))
  rw [detN3]
  simp only [detL, detL3]
theorem specDetL {n : Nat} (hn : n = 1 ∨ n = 2 ∨ n = 3) {M : List (List Int)} (hM : M.length = n) (hr : ∀ r ∈ M, r.length = n ∧ ∀ a ∈ r, a.natAbs ≤ 19) : (detL M).natAbs ≤ 185193 ∧ Ev (fun k => spec_gmDeterminant.f k M) (detL M) := by
 obtain ⟨a, b⟩ := specDet n (by omega) M hM hr
 rw [detN_L hn hM (fun r h => (hr r h).1)] at a b
 refine ⟨Nat.le_trans a ?_, b⟩
 rcases hn with rfl | rfl | rfl <;> decide
theorem implDetL {n : Nat} (hn : n = 1 ∨ n = 2 ∨ n = 3) {M : List (List Int)} (hM : M.length = n) (hr : ∀ r ∈ M, r.length = n ∧ ∀ a ∈ r, a.natAbs ≤ 19) : Ev (fun k => impl_det.f k M) (detL M) := by
 have b := implDet n (by omega) (by omega) M hM hr
 rwa [detN_L hn hM (fun r h => (hr r h).1)] at b
end Go.Proofs.Ytggiicplcglalaa.GmRed
end
section
namespace Go.Proofs.Ytggiicplcglalaa.GmCh
open Go.RowKit Go.Proofs.Ytggiicplcglalaa.All Go.Proofs.YtggiicplcglalaaW.PrintWords Go.Proofs.YtggiicplcglalaaW.PrintLast Go.Proofs.Ytggiicplcglalaa.Eqs Go.Proofs.Ytggiicplcglalaa.LH
def incs (N : Nat) : Nat → Nat → List (List Nat)
 | 0, _ => [[]]
 | n + 1, lo => (List.range' lo (N - lo)).flatMap fun i => (incs N n (i + 1)).map (i :: ·)
theorem inc_cons : ∀ (l : List Nat) (a : Nat), Inc (a :: l) ↔ (∀ b ∈ l, a < b) ∧ Inc l
 | [], a => by simp [Inc]
 | b :: l, a => by
  have ih := inc_cons l b
  constructor
  ·rintro ⟨h1, h2⟩
   refine ⟨fun c hc => ?_, h2⟩
   rcases List.mem_cons.1 hc with rfl | hc
   ·exact h1
   ·have := (ih.1 h2).1 c hc; omega
  ·rintro ⟨h1, h2⟩
   exact ⟨h1 b (by simp), h2⟩
theorem mem_incs (N : Nat) : ∀ (n lo : Nat) (S : List Nat), S ∈ incs N n lo ↔ S.length = n ∧ Inc S ∧ ∀ k ∈ S, lo ≤ k ∧ k < N
 | 0, lo, S => by
  simp only [incs, List.mem_singleton]
  constructor
  ·rintro rfl; exact ⟨rfl, trivial, by simp⟩
  ·rintro ⟨h, _, _⟩; exact List.eq_nil_of_length_eq_zero h
 | n + 1, lo, S => by
  simp only [incs, List.mem_flatMap, List.mem_map, List.mem_range'_1]
  constructor
  ·rintro ⟨i, hi, T, hT, rfl⟩
   obtain ⟨t1, t2, t3⟩ := (mem_incs N n (i + 1) T).1 hT
   refine ⟨by simp [t1], (inc_cons T i).2 ⟨fun b hb => (t3 b hb).1, t2⟩, fun k hk => ?_⟩
   rcases List.mem_cons.1 hk with rfl | hk
   ·omega
   ·have := t3 k hk; omega
  ·rintro ⟨h1, h2, h3⟩
   obtain ⟨i, T, rfl⟩ : ∃ i T, S = i :: T := by
    cases S with
    | nil => simp at h1
    | cons i T => exact ⟨i, T, rfl⟩
   have hi := h3 i (by simp)
   replace h2 := (inc_cons T i).1 h2
   exact ⟨i, by omega, T, (mem_incs N n (i + 1) T).2 ⟨by simpa using h1, h2.2, fun k hk => ⟨h2.1 k hk, (h3 k (by simp [hk])).2⟩⟩, rfl⟩
def asInts (L : List (List Nat)) : List (List Int) := L.map fun S => S.map Int.ofNat
theorem choices_at (N n : Nat) (h : (n = 1 ∨ n = 2 ∨ n = 3) ∧ (N = n + 1 ∨ N = n + 2 ∨ N = n + 3)) : impl_choices.f 100 (N : Int) (n : Int) 0 = some (asInts (incs N n 0)) := by
 obtain ⟨h1, h2⟩ := h
 rcases h1 with rfl | rfl | rfl <;> rcases h2 with rfl | rfl | rfl <;> kernel_rfl
theorem evChoices (N n : Nat) (h : (n = 1 ∨ n = 2 ∨ n = 3) ∧ (N = n + 1 ∨ N = n + 2 ∨ N = n + 3)) : Ev (fun k => impl_choices.f k (N : Int) (n : Int) 0) (asInts (incs N n 0)) := by
 refine ⟨100, fun k hk => ?_⟩
 obtain ⟨d, rfl⟩ : ∃ d, k = 100 + d := ⟨k - 100, by omega⟩
 clear hk
 induction d with
 | zero => exact choices_at N n h
 | succ d ih => exact impl_choices.mono _ _ _ _ _ ih
end Go.Proofs.Ytggiicplcglalaa.GmCh
end
section
namespace Go.Proofs.Ytggiicplcglalaa.GmSol
open Go.RowKit Go.Proofs.Ytggiicplcglalaa.All Go.Proofs.YtggiicplcglalaaW.PrintWords Go.Proofs.YtggiicplcglalaaW.PrintLast Go.Proofs.Ytggiicplcglalaa.Eqs Go.Proofs.Ytggiicplcglalaa.GmDet Go.Proofs.Ytggiicplcglalaa.GmRed Go.Proofs.Ytggiicplcglalaa.LH
abbrev Cn := S70
theorem rdT_get {x : List Cn} {i : Nat} (h : i < x.length) : rd_T70 x (i : Int) = x[i] := by simp [rd_T70, List.getD, List.getElem?_eq_getElem h]
def colIn (c : Nat) (x : List Cn) : List (List Int) := x.map fun q => q.f0.set c q.f1
theorem so_l0 (x0 : List Cn) (hl : x0.length ≤ 1000) (v : List Int)
  (hfin : Ev (fun k => (impl_det.f k (x0.map (·.f0))).bind fun t => if t = 0 then some ([] : List Int) else impl_solve.l1 k x0 (x0.map (·.f0)) t ([] : List Int) (x0.length : Int) 0) v) (d : Nat) :
  ∀ i : Nat, i + d = x0.length → Ev (fun k => impl_solve.l0 k x0 ((x0.take i).map (·.f0)) x0 (x0.length : Int) (i : Int)) v := by
 induction d with
 | zero =>
  intro i hi
  rw [List.take_of_length_le (by omega)]
  exact Ev.step (fun k => by simp only [impl_solve.l0]; rw [if_neg (by omega)]) hfin
 | succ d ih =>
  intro i hi
  have h1 : i < x0.length := by omega
  have ei : wrap64 ((i : Int) + 1) = ((i + 1 : Nat) : Int) := by unfold wrap64; omega
  refine Ev.step (fun k => ?_) (ih (i + 1) (by omega))
  simp only [impl_solve.l0]
  rw [if_pos (by omega), if_pos (by omega), if_pos (by omega), if_pos (by simp; omega), rdT_get h1, ei, List.take_succ_eq_append_getElem h1, List.map_append]
  rfl
theorem so_l2 (x0 : List Cn) (hl : x0.length ≤ 1000) (c : Nat) (hc : ∀ q ∈ x0, c < q.f0.length ∧ q.f0.length ≤ 1000) (x6 : Int) (x7 : List Int) (x33 x34 : Int) (v : List Int)
  (hfin : Ev (fun k => (impl_det.f k (colIn c x0)).bind fun t => if x7.length < 17592186044416 then impl_solve.l1 k x0 (x0.map (·.f0)) x6 (x7 ++ [t]) x33 (wrap64 (x34 + 1)) else none) v) (d : Nat) :
  ∀ i : Nat, i + d = x0.length → Ev (fun k => impl_solve.l2 k x0 (x0.map (·.f0)) x6 x7 (c : Int) (colIn c (x0.take i)) x33 x34 (x0.map (·.f0)) ((x0.map (·.f0)).length : Int) (i : Int)) v := by
 induction d with
 | zero =>
  intro i hi
  rw [List.take_of_length_le (by omega)]
  refine Ev.step (fun k => ?_) hfin
  simp only [impl_solve.l2]
  rw [if_neg (by simp; omega)]
 | succ d ih =>
  intro i hi
  have h1 : i < x0.length := by omega
  obtain ⟨c1, c2⟩ := hc _ (List.getElem_mem h1)
  have ei : wrap64 ((i : Int) + 1) = ((i + 1 : Nat) : Int) := by unfold wrap64; omega
  have er : rd_L1 (x0.map (·.f0)) (i : Int) = x0[i].f0 := by simp [rd_L1, List.getD, List.getElem?_eq_getElem h1]
  refine Ev.step (fun k => ?_) (ih (i + 1) (by omega))
  simp only [impl_solve.l2]
  rw [if_pos (by simp; omega), if_pos (by omega), if_pos (by simp; omega), er, clone_is _ (by omega), Option.bind_some, if_pos (by omega), if_pos (by omega), if_pos (by omega), if_pos (by simp [colIn]; omega), rdT_get h1, ei, Int.toNat_natCast]
  unfold colIn
  rw [List.take_succ_eq_append_getElem h1, List.map_append]
  rfl
def cdOf (q : Cn) : Cd := (q.f0, q.f1)
theorem colPut_in (c : Nat) (x : List Cn) : colPut c (x.map cdOf) = colIn c x := by
 unfold colPut colIn
 rw [List.map_map]
 rfl
theorem map_drop_get (f : Int → Int) (q : List Int) (i : Nat) (h : i < q.length) (h2 : i < ((q.take i).map f ++ q.drop i).length) : ((q.take i).map f ++ q.drop i)[i] = q[i] := by
 rw [List.getElem_append_right (by simp; omega), List.getElem_drop]
 have e : i + (i - (List.map f (q.take i)).length) = i := by simp; omega
 simp only [e]
theorem neg_step (q : List Int) (i : Nat) (h : i < q.length) : ((q.take i).map (fun a => -a) ++ q.drop i).set i (-q[i]) = (q.take (i + 1)).map (fun a => -a) ++ q.drop (i + 1) := by
 rw [List.set_append, if_neg (by simp; omega), List.drop_eq_getElem_cons h, List.take_succ_eq_append_getElem h, List.map_append, List.append_assoc]
 have : i - (List.map (fun a : Int => -a) (q.take i)).length = 0 := by simp; omega
 rw [this]
 rfl
theorem so_l3 (x6 : Int) (h6 : x6.natAbs ≤ 185193) (q : List Int) (hq : ∀ a ∈ q, a.natAbs ≤ 185193) (hl : q.length ≤ 1000) (d : Nat) :
  ∀ i : Nat, i + d = q.length → Ev (fun k => impl_solve.l3 k x6 ((q.take i).map (fun a => -a) ++ q.drop i) (q.length : Int) (i : Int)) (q.map (fun a => -a) ++ [-x6]) := by
 induction d with
 | zero =>
  intro i hi
  rw [List.take_of_length_le (by omega), List.drop_eq_nil_of_le (by omega), List.append_nil]
  refine Ev.step (fun k => ?_) (Ev.now _)
  simp only [impl_solve.l3]
  rw [if_neg (by omega), if_pos (by simp; omega), wrap_id (x := -x6) (by omega) (by omega)]
 | succ d ih =>
  intro i hi
  have h1 : i < q.length := by omega
  have b := hq _ (List.getElem_mem h1)
  have ei : wrap64 ((i : Int) + 1) = ((i + 1 : Nat) : Int) := by unfold wrap64; omega
  refine Ev.step (fun k => ?_) (ih (i + 1) (by omega))
  simp only [impl_solve.l3]
  have hlen : ((q.take i).map (fun a => -a) ++ q.drop i).length = q.length := by simp; omega
  have er : rd ((q.take i).map (fun a => -a) ++ q.drop i) (i : Int) = q[i] := by
   have h2 : i < ((q.take i).map (fun a => -a) ++ q.drop i).length := by omega
   rw [rd_getElem h2, map_drop_get _ q i h1 h2]
  rw [if_pos (by omega), if_pos (by omega), if_pos (by omega), er, wrap_id (x := -q[i]) (by omega) (by omega), Int.toNat_natCast, neg_step q i h1, ei]
theorem cand_of {n : Nat} (x0 : List Cn) (hx : x0.length = n) : cand (x0.map cdOf) = ((List.range n).map fun c => if detL (x0.map (·.f0)) < 0 then -detL (colIn c x0) else detL (colIn c x0)) ++ [((detL (x0.map (·.f0))).natAbs : Int)] := by
 unfold cand
 have e : (x0.map cdOf).map (·.1) = x0.map (·.f0) := by rw [List.map_map]; rfl
 rw [e, List.length_map, hx]
 simp only [colPut_in]
def Sq (n : Nat) (x0 : List Cn) : Prop := x0.length = n ∧ ∀ q ∈ x0, q.f0.length = n ∧ (∀ a ∈ q.f0, a.natAbs ≤ 19) ∧ q.f1.natAbs ≤ 19
theorem Sq.rows {n : Nat} {x0 : List Cn} (h : Sq n x0) : (x0.map (·.f0)).length = n ∧ ∀ r ∈ x0.map (·.f0), r.length = n ∧ ∀ a ∈ r, a.natAbs ≤ 19 := by
 refine ⟨by simp [h.1], fun r hr => ?_⟩
 obtain ⟨q, hq, rfl⟩ := List.mem_map.1 hr
 exact ⟨(h.2 q hq).1, (h.2 q hq).2.1⟩
theorem Sq.cols {n : Nat} {x0 : List Cn} (h : Sq n x0) (c : Nat) : (colIn c x0).length = n ∧ ∀ r ∈ colIn c x0, r.length = n ∧ ∀ a ∈ r, a.natAbs ≤ 19 := by
 refine ⟨by simp [colIn, h.1], fun r hr => ?_⟩
 obtain ⟨q, hq, rfl⟩ := List.mem_map.1 hr
 obtain ⟨a, b, c'⟩ := h.2 q hq
 refine ⟨by simp [a], fun z hz => ?_⟩
 rcases List.mem_or_eq_of_mem_set hz with h | h
 ·exact b z h
 ·subst h; exact c'
theorem so_l1 {n : Nat} (hn : n = 1 ∨ n = 2 ∨ n = 3) (x0 : List Cn) (hs : Sq n x0) (v : List Int)
  (hfin : Ev (fun k => if detL (x0.map (·.f0)) < 0 then impl_solve.l3 k (detL (x0.map (·.f0))) ((List.range n).map fun c => detL (colIn c x0)) (((List.range n).map fun c => detL (colIn c x0)).length : Int) 0 else if ((List.range n).map fun c => detL (colIn c x0)).length < 17592186044416 then some (((List.range n).map fun c => detL (colIn c x0)) ++ [detL (x0.map (·.f0))]) else none) v) (d : Nat) :
  ∀ i : Nat, i + d = n → Ev (fun k => impl_solve.l1 k x0 (x0.map (·.f0)) (detL (x0.map (·.f0))) ((List.range i).map fun c => detL (colIn c x0)) (x0.length : Int) (i : Int)) v := by
 induction d with
 | zero =>
  intro i hi
  obtain rfl : i = n := by omega
  refine Ev.step (fun k => ?_) hfin
  simp only [impl_solve.l1]
  rw [if_neg (by rw [hs.1]; omega)]
 | succ d ih =>
  intro i hi
  have ei : wrap64 ((i : Int) + 1) = ((i + 1 : Nat) : Int) := by unfold wrap64; omega
  obtain ⟨c1, c2⟩ := hs.cols i
  refine Ev.step (f := fun k => impl_solve.l2 k x0 (x0.map (·.f0)) (detL (x0.map (·.f0))) ((List.range i).map fun c => detL (colIn c x0)) (i : Int) (colIn i (x0.take 0)) (x0.length : Int) (i : Int) (x0.map (·.f0)) ((x0.map (·.f0)).length : Int) ((0 : Nat) : Int)) (fun k => ?_) (so_l2 x0 (by rw [hs.1]; omega) i (fun q hq => by rw [(hs.2 q hq).1]; omega) _ _ _ _ v ?_ x0.length 0 (by omega))
  ·simp only [impl_solve.l1]
   rw [if_pos (by rw [hs.1]; omega)]
   rfl
  ·refine Ev.bind (a := detL (colIn i x0)) (implDetL hn c1 c2) ?_
   refine Ev.congr (f := fun k => impl_solve.l1 k x0 (x0.map (·.f0)) (detL (x0.map (·.f0))) ((List.range (i + 1)).map fun c => detL (colIn c x0)) (x0.length : Int) ((i + 1 : Nat) : Int)) (fun k => ?_) (ih (i + 1) (by omega))
   rw [if_pos (by simp; omega), ei, List.range_succ, List.map_append]
   rfl
theorem evSolve {n : Nat} (hn : n = 1 ∨ n = 2 ∨ n = 3) (x0 : List Cn) (hs : Sq n x0) : Ev (fun k => impl_solve.f k x0) (if detL ((x0.map cdOf).map (·.1)) = 0 then [] else cand (x0.map cdOf)) := by
 have e : (x0.map cdOf).map (·.1) = x0.map (·.f0) := by rw [List.map_map]; rfl
 rw [e]
 obtain ⟨r1, r2⟩ := hs.rows
 have hb := (specDetL hn r1 r2).1
 have hbc : ∀ c, (detL (colIn c x0)).natAbs ≤ 185193 := fun c => (specDetL hn (hs.cols c).1 (hs.cols c).2).1
 refine so_l0 x0 (by rw [hs.1]; omega) _ (Ev.bind (a := detL (x0.map (·.f0))) (implDetL hn r1 r2) ?_) x0.length 0 (by omega)
 by_cases c : detL (x0.map (·.f0)) = 0
 ·rw [if_pos c]
  exact Ev.congr (fun k => by rw [if_pos c]) (Ev.now _)
 ·rw [if_neg c, cand_of x0 hs.1]
  refine Ev.congr (fun k => by rw [if_neg c]; rfl) (so_l1 hn x0 hs _ ?_ n 0 (by omega))
  generalize hd : detL (x0.map (·.f0)) = D at hb c ⊢
  by_cases c2 : D < 0
  ·simp only [if_pos c2]
   have := so_l3 D hb ((List.range n).map fun c => detL (colIn c x0)) (fun a ha => by
    obtain ⟨j, _, rfl⟩ := List.mem_map.1 ha
    exact hbc j) (by simp; omega) ((List.range n).map fun c => detL (colIn c x0)).length 0 (by omega)
   rw [List.map_map] at this
   rw [natAbs_neg c2]
   exact this
  ·simp only [if_neg c2]
   rw [natAbs_pos' c2]
   exact Ev.congr (fun k => by rw [if_pos (by simp; omega)]) (Ev.now _)
end Go.Proofs.Ytggiicplcglalaa.GmSol
end
section
namespace Go.Proofs.Ytggiicplcglalaa.GmDot
open Go.RowKit Go.Proofs.Ytggiicplcglalaa.All Go.Proofs.YtggiicplcglalaaW.PrintWords Go.Proofs.YtggiicplcglalaaW.PrintLast Go.Proofs.Ytggiicplcglalaa.Eqs Go.Proofs.Ytggiicplcglalaa.GmDet
def dotQ : List Int → List Int → Int
 | a :: x, b :: y => a * b + dotQ x y
 | _, _ => 0
theorem mul_bq {a b : Int} (ha : a.natAbs ≤ 19) (hb : b.natAbs ≤ 1000000000) : (a * b).natAbs ≤ 19000000000 := by
 rw [Int.natAbs_mul]
 exact Nat.le_trans (Nat.mul_le_mul ha hb) (by decide)
theorem dot_l0 (x y : List Int) (hxy : x.length ≤ y.length) (hx : ∀ a ∈ x, a.natAbs ≤ 19) (hy : ∀ b ∈ y, b.natAbs ≤ 1000000000) (hl : x.length ≤ 1000) (d : Nat) :
  ∀ (i : Nat) (s : Int), i + d = x.length → s.natAbs ≤ i * 19000000000 → Ev (fun k => impl_dot.l0 k y s x (x.length : Int) (i : Int)) (s + dotQ (x.drop i) (y.drop i)) := by
 induction d with
 | zero =>
  intro i s hi hs
  rw [List.drop_eq_nil_of_le (show x.length ≤ i by omega)]
  simp only [dotQ, Int.add_zero]
  exact Ev.step (fun k => by simp only [impl_dot.l0]; rw [if_neg (by omega)]) (Ev.now s)
 | succ d ih =>
  intro i s hi hs
  have h1 : i < x.length := by omega
  have h2 : i < y.length := by omega
  have b1 := mul_bq (hx _ (List.getElem_mem h1)) (hy _ (List.getElem_mem h2))
  rw [List.drop_eq_getElem_cons h1, List.drop_eq_getElem_cons h2]
  simp only [dotQ]
  generalize hP : x[i] * y[i] = P at b1 ⊢
  have ei : wrap64 ((i : Int) + 1) = ((i + 1 : Nat) : Int) := by unfold wrap64; omega
  have b2 : (s + P).natAbs ≤ (i + 1) * 19000000000 := by
   have := Int.natAbs_add_le s P
   omega
  have e1 : wrap64 P = P := wrap_id (by omega) (by omega)
  have e2 : wrap64 (s + P) = s + P := wrap_id (by omega) (by omega)
  have key := ih (i + 1) (s + P) (by omega) b2
  rw [Int.add_assoc] at key
  refine Ev.step (fun k => ?_) key
  simp only [impl_dot.l0]
  rw [if_pos (by omega), if_pos (by omega), if_pos (by omega), if_pos (by omega), rd_getElem h1, rd_getElem h2, hP, e1, e2, ei]
theorem evDotQ (x y : List Int) (hxy : x.length ≤ y.length) (hx : ∀ a ∈ x, a.natAbs ≤ 19) (hy : ∀ b ∈ y, b.natAbs ≤ 1000000000) (hl : x.length ≤ 1000) : Ev (fun k => impl_dot.f k x y) (dotQ x y) := by
 have := dot_l0 x y hxy hx hy hl x.length 0 0 (by omega) (by simp)
 simp only [List.drop_zero, Int.zero_add] at this
 exact this
theorem dotQ_take : ∀ (x y : List Int), dotQ x (y.take x.length) = dotQ x y
 | [], y => by simp [dotQ]
 | a :: x, [] => by simp [dotQ]
 | a :: x, b :: y => by simp [dotQ, dotQ_take x y]
theorem dotQ_bd : ∀ (x y : List Int), (∀ a ∈ x, a.natAbs ≤ 19) → (∀ b ∈ y, b.natAbs ≤ 1000000000) → (dotQ x y).natAbs ≤ x.length * 19000000000
 | [], y, _, _ => by simp [dotQ]
 | a :: x, [], _, _ => by simp [dotQ]
 | a :: x, b :: y, hx, hy => by
  have ih := dotQ_bd x y (fun z hz => hx z (by simp [hz])) (fun z hz => hy z (by simp [hz]))
  have h1 := mul_bq (hx a (by simp)) (hy b (by simp))
  have := Int.natAbs_add_le (a * b) (dotQ x y)
  simp only [dotQ, List.length_cons]
  omega
def gap (row : List Int) (rhs : Int) (p : List Int) : Int := dotQ row p - rhs * p.getD row.length 0
def told (least : Bool) (g : Int) : Int := if g = 0 then 0 else if (decide (g > 0) == least) = true then 1 else -1
theorem evMeets (row : List Int) (rhs : Int) (least : Bool) (p : List Int) (hp : p.length = row.length + 1) (hr : ∀ a ∈ row, a.natAbs ≤ 19) (hs : rhs.natAbs ≤ 19) (hy : ∀ b ∈ p, b.natAbs ≤ 1000000000) (hl : row.length ≤ 100) :
  Ev (fun k => impl_condition_meets.f k row rhs least p) (told least (gap row rhs p)) := by
 have hd := evDotQ row (p.take row.length) (by simp; omega) hr (fun b hb => hy b (List.mem_of_mem_take hb)) (by omega)
 rw [dotQ_take] at hd
 have hb := dotQ_bd row p hr hy
 have h1 : row.length < p.length := by omega
 have e0 : rd p (row.length : Int) = p[row.length] := rd_getElem h1
 have eg : p.getD row.length 0 = p[row.length] := by simp [List.getD, List.getElem?_eq_getElem h1]
 have b1 := mul_bq hs (hy _ (List.getElem_mem h1))
 unfold gap
 rw [eg]
 generalize hP : rhs * p[row.length] = P at b1 ⊢
 generalize dotQ row p = D at hd hb ⊢
 have e1 : wrap64 P = P := wrap_id (by omega) (by omega)
 have e2 : wrap64 (D - P) = D - P := wrap_id (by omega) (by omega)
 refine Ev.congr (f := fun k => (impl_dot.f k row (p.take row.length)).bind fun t => if wrap64 (t - wrap64 (rhs * p[row.length])) = 0 then some 0 else if (decide (wrap64 (t - wrap64 (rhs * p[row.length])) > 0) == least) = true then some 1 else some (-1)) (fun k => ?_) ?_
 ·simp only [impl_condition_meets.f]
  rw [if_pos (by omega), if_pos (by omega), Int.toNat_natCast, e0]
  congr 1
  funext t
  rw [if_pos (by omega)]
 ·refine Ev.bind (a := D) hd ?_
  rw [hP, e1, e2]
  unfold told
  by_cases c : D - P = 0
  ·rw [if_pos c, if_pos c]; exact Ev.now _
  ·rw [if_neg c, if_neg c]
   by_cases c2 : (decide (D - P > 0) == least) = true
   ·rw [if_pos c2, if_pos c2]; exact Ev.now _
   ·rw [if_neg c2, if_neg c2]; exact Ev.now _
end Go.Proofs.Ytggiicplcglalaa.GmDot
end
