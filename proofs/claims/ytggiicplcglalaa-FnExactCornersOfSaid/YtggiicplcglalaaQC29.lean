/- Part of the proof that the law FnExactCornersOf answers true for all arguments. -/
import Derived.Test.YtggiicplcglalaaQC28
section
namespace Go.Proofs.Ytggiicplcglalaa.GmPut
open Go.Proofs.Ytggiicplcglalaa.LH
set_option autoImplicit true
def putL : List (List Int) → List Int → List (List Int)
 | [], p => [p]
 | a :: L, p => if lexlt a p = true then a :: putL L p else if a = p then a :: L else p :: a :: L
theorem mem_putL (p q : List Int) : ∀ L : List (List Int), q ∈ putL L p ↔ q = p ∨ q ∈ L
 | [] => by simp [putL]
 | a :: L => by
  unfold putL
  by_cases h : lexlt a p = true
  ·rw [if_pos h, List.mem_cons, mem_putL p q L, List.mem_cons]
   constructor
   ·rintro (h | h | h)
    ·exact .inr (.inl h)
    ·exact .inl h
    ·exact .inr (.inr h)
   ·rintro (h | h | h)
    ·exact .inr (.inl h)
    ·exact .inl h
    ·exact .inr (.inr h)
  ·rw [if_neg h]
   by_cases e : a = p
   ·rw [if_pos e]; subst e
    simp
   ·rw [if_neg e]
    simp
theorem sorted_putL {n : Nat} (p : List Int) (hp : p.length = n) : ∀ L : List (List Int), (∀ a ∈ L, a.length = n) → Sorted L → Sorted (putL L p)
 | [], _, _ => by simp [putL, Sorted]
 | a :: L, hl, hs => by
  obtain ⟨h1, h2⟩ := List.pairwise_cons.mp hs
  unfold putL
  by_cases h : lexlt a p = true
  ·rw [if_pos h]
   refine List.pairwise_cons.mpr ⟨fun b hb => ?_, sorted_putL p hp L (fun b hb => hl b (by simp [hb])) h2⟩
   rcases (mem_putL p b L).1 hb with rfl | hb
   ·exact h
   ·exact h1 b hb
  ·rw [if_neg h]
   by_cases e : a = p
   ·rw [if_pos e]; exact hs
   ·rw [if_neg e]
    have hpa : lexlt p a = true := by
     rcases lexlt_total (a := a) (b := p) (by rw [hl a (by simp), hp]) e with c | c
     ·exact absurd c h
     ·exact c
    refine List.pairwise_cons.mpr ⟨fun b hb => ?_, hs⟩
    rcases List.mem_cons.1 hb with rfl | hb
    ·exact hpa
    ·exact lexlt_trans hpa (h1 b hb)
theorem putL_skip {p a : List Int} (L : List (List Int)) (h : lexlt a p = true) : putL (a :: L) p = a :: putL L p := by
 simp only [putL]; rw [if_pos h]
def mbits (N s : Nat) : List Nat := (List.range N).filter fun k => decide (s / 2 ^ k % 2 = 1)
theorem inc_of_pairwise : ∀ {l : List Nat}, l.Pairwise (· < ·) → Inc l
 | [], _ => trivial
 | [_], _ => trivial
 | a :: b :: l, h => by
  obtain ⟨h1, h2⟩ := List.pairwise_cons.mp h
  exact ⟨h1 b (by simp), inc_of_pairwise h2⟩
theorem mbits_inc (N s : Nat) : Inc (mbits N s) := inc_of_pairwise (List.Pairwise.filter _ List.pairwise_lt_range)
theorem mbits_lt {N s k : Nat} (h : k ∈ mbits N s) : k < N := List.mem_range.1 (List.mem_filter.1 h).1
theorem mbits_succ (N s : Nat) : mbits (N + 1) s = mbits N s ++ (if s / 2 ^ N % 2 = 1 then [N] else []) := by
 unfold mbits
 rw [List.range_succ, List.filter_append]
 congr 1
 by_cases h : s / 2 ^ N % 2 = 1 <;> simp [h]
theorem mbits_add {N s t : Nat} (h : s < 2 ^ N) : ∀ M, M ≤ N → mbits M (s + 2 ^ N * t) = mbits M s
 | 0, _ => rfl
 | M + 1, hM => by
  rw [mbits_succ, mbits_succ, mbits_add h M (by omega)]
  have e : (s + 2 ^ N * t) / 2 ^ M % 2 = s / 2 ^ M % 2 := by
   obtain ⟨d, rfl⟩ : ∃ d, N = M + (d + 1) := ⟨N - M - 1, by omega⟩
   rw [Nat.pow_add, Nat.mul_assoc, Nat.add_mul_div_left _ _ (Nat.two_pow_pos M), Nat.pow_succ, Nat.mul_comm (2 ^ d) 2, Nat.mul_assoc, Nat.add_mul_mod_self_left]
  rw [e]
theorem inc_append_lt : ∀ {l : List Nat} {a : Nat}, Inc (l ++ [a]) → Inc l ∧ ∀ b ∈ l, b < a
  | [], a, _ => ⟨trivial, by simp⟩
  | [x], a, h => ⟨trivial, by intro b hb; have : b = x := by simpa using hb
                              subst this; exact h.1⟩
  | x :: y :: l, a, h => by
    obtain ⟨h1, h2⟩ := h
    obtain ⟨i1, i2⟩ := inc_append_lt (l := y :: l) h2
    refine ⟨⟨h1, i1⟩, fun b hb => ?_⟩
    rcases List.mem_cons.1 hb with rfl | hb
    · have := i2 y (by simp); omega
    · exact i2 b hb
theorem mbits_onto : ∀ (N : Nat) (S : List Nat), Inc S → (∀ k ∈ S, k < N) → ∃ s, s < 2 ^ N ∧ mbits N s = S
 | 0, S, _, hN => ⟨0, by simp, by
   cases S with
   | nil => rfl
   | cons a S => exact absurd (hN a (by simp)) (by omega)⟩
 | N + 1, S, hI, hN => by
  by_cases h : N ∈ S
  ·-- the last is N
   have hne : S ≠ [] := fun e => by rw [e] at h; simp at h
   obtain ⟨T, a, rfl⟩ : ∃ T a, S = T ++ [a] := ⟨S.dropLast, S.getLast hne, (List.dropLast_concat_getLast hne).symm⟩
   obtain ⟨i1, i2⟩ := inc_append_lt hI
   have ha : a = N := by
    have := hN a (by simp)
    rcases List.mem_append.1 h with c | c
    ·have := i2 N c; omega
    ·exact (by simpa using c : N = a).symm
   subst ha
   obtain ⟨s, s1, s2⟩ := mbits_onto a T i1 i2
   refine ⟨s + 2 ^ a * 1, by rw [Nat.pow_succ]; omega, ?_⟩
   rw [mbits_succ, mbits_add s1 a (Nat.le_refl _), s2]
   have e : (s + 2 ^ a * 1) / 2 ^ a % 2 = 1 := by
    rw [Nat.add_mul_div_left _ _ (Nat.two_pow_pos a), Nat.div_eq_of_lt s1]
   rw [if_pos e]
  ·obtain ⟨s, s1, s2⟩ := mbits_onto N S hI (fun k hk => by
    have := hN k hk
    have : k ≠ N := fun e => h (e ▸ hk)
    omega)
   refine ⟨s, by rw [Nat.pow_succ]; omega, ?_⟩
   rw [mbits_succ, s2, Nat.div_eq_of_lt s1]
   simp
end Go.Proofs.Ytggiicplcglalaa.GmPut
end
section
namespace Go.Proofs.Ytggiicplcglalaa.GmFig
open Go.Proofs.Ytggiicplcglalaa.LH Go.Proofs.Ytggiicplcglalaa.GmDot Go.Proofs.Ytggiicplcglalaa.GmPut
set_option linter.unusedVariables false
theorem ev_gap {dim : Nat} (hd : dim = 1 ∨ dim = 2 ∨ dim = 3) {r p : List Int} (t s : Int) (hr : r.length = dim) (hp : p.length = dim + 1) : ev (pad s (r, t)) (emb p) = s * gap r t p := by
 unfold gap
 rcases hd with rfl | rfl | rfl
 ·obtain ⟨a, rfl⟩ := len1 hr
  obtain ⟨x, d, rfl⟩ := len2 hp
  simp [pad, emb, ev, dotQ]
  grind
 ·obtain ⟨a, b, rfl⟩ := len2 hr
  obtain ⟨x, y, d, rfl⟩ := len3 hp
  simp [pad, emb, ev, dotQ]
  grind
 ·obtain ⟨a, b, c, rfl⟩ := len3 hr
  obtain ⟨x, y, z, d, rfl⟩ := len4 hp
  simp [pad, emb, ev, dotQ]
  grind
theorem told_zero (b : Bool) (g : Int) : told b g = 0 ↔ g = 0 := by
 unfold told
 by_cases h : g = 0
 ·simp [h]
 ·rw [if_neg h]; split <;> simp [h]
theorem told_neg (b : Bool) (g : Int) : told b g < 0 ↔ (if b = true then (1 : Int) else -1) * g < 0 := by
 unfold told
 by_cases h : g = 0
 ·subst h; simp
 ·rw [if_neg h]
  cases b
  ·by_cases c : g > 0
   ·simp [c]
   ·simp [c] <;> omega
  ·by_cases c : g > 0
   ·simp [c] <;> omega
   ·simp [c] <;> omega
theorem corner_turn {F G : Nat → H} {N dim : Nat} (hd : dim = 1 ∨ dim = 2 ∨ dim = 3) (h1 : ∀ k, k < N → ∃ j, j < N ∧ F k = G j) (h2 : ∀ j, j < N → ∃ k, k < N ∧ G j = F k) {p : List Int} (h : IsCorner F N dim p) : IsCorner G N dim p := by
 obtain ⟨a, b, c, d, S, hS, h0, hdet⟩ := h
 refine ⟨a, b, c, fun j hj => ?_, ?_⟩
 ·obtain ⟨k, hk, e⟩ := h2 j hj
  rw [e]; exact d k hk
 ·rcases hd with rfl | rfl | rfl
  ·obtain ⟨x, rfl⟩ := len1 hS
   obtain ⟨x1, x2⟩ := h0 x (by simp)
   obtain ⟨i, hi, ex⟩ := h1 x x1
   refine ⟨[i], rfl, fun k hk => ?_, ?_⟩
   ·have : k = i := by simpa using hk
    subst this; rw [← ex]; exact ⟨hi, x2⟩
   ·simpa only [detS, ← ex] using hdet
  ·obtain ⟨x, y, rfl⟩ := len2 hS
   obtain ⟨x1, x2⟩ := h0 x (by simp)
   obtain ⟨y1, y2⟩ := h0 y (by simp)
   obtain ⟨i, hi, ex⟩ := h1 x x1
   obtain ⟨j, hj, ey⟩ := h1 y y1
   refine ⟨[i, j], rfl, fun k hk => ?_, ?_⟩
   ·have : k = i ∨ k = j := by simpa using hk
    rcases this with rfl | rfl
    ·rw [← ex]; exact ⟨hi, x2⟩
    ·rw [← ey]; exact ⟨hj, y2⟩
   ·simpa only [detS, ← ex, ← ey] using hdet
  ·obtain ⟨x, y, z, rfl⟩ := len3 hS
   obtain ⟨x1, x2⟩ := h0 x (by simp)
   obtain ⟨y1, y2⟩ := h0 y (by simp)
   obtain ⟨z1, z2⟩ := h0 z (by simp)
   obtain ⟨i, hi, ex⟩ := h1 x x1
   obtain ⟨j, hj, ey⟩ := h1 y y1
   obtain ⟨l, hl, ez⟩ := h1 z z1
   refine ⟨[i, j, l], rfl, fun k hk => ?_, ?_⟩
   ·have : k = i ∨ k = j ∨ k = l := by simpa using hk
    rcases this with rfl | rfl | rfl
    ·rw [← ex]; exact ⟨hi, x2⟩
    ·rw [← ey]; exact ⟨hj, y2⟩
    ·rw [← ez]; exact ⟨hl, z2⟩
   ·simpa only [detS, ← ex, ← ey, ← ez] using hdet
def unitR (n i : Nat) : List Int := (List.replicate n (0 : Int)).set i 1
theorem unitR_len (n i : Nat) : (unitR n i).length = n := by simp [unitR]
def CA (dim : Nat) (M : List (List Int)) (k : Nat) : Cd := if k < dim then (unitR dim k, 0) else (M.getD (k - dim) [], 1)
def FA (dim : Nat) (M : List (List Int)) (k : Nat) : H := if k < dim then pad 1 (unitR dim k, 0) else pad (-1) (M.getD (k - dim) [], 1)
def FB (dim : Nat) (M : List (List Int)) (k : Nat) : H := if k < M.length then pad (-1) (M.getD k [], 1) else pad 1 (unitR dim (k - M.length), 0)
theorem getD_mem {M : List (List Int)} {k : Nat} (h : k < M.length) : M.getD k [] ∈ M := by
 rw [List.getD_eq_getElem?_getD, List.getElem?_eq_getElem h]
 exact List.getElem_mem _
theorem tellsA {dim : Nat} {M : List (List Int)} (hM : ∀ r ∈ M, r.length = dim) : Tells (FA dim M) (CA dim M) (dim + M.length) dim := by
 intro k hk
 unfold FA CA
 by_cases c : k < dim
 ·rw [if_pos c, if_pos c]
  exact ⟨unitR_len _ _, 1, .inl rfl, rfl⟩
 ·rw [if_neg c, if_neg c]
  exact ⟨hM _ (getD_mem (by omega)), -1, .inr rfl, rfl⟩
def turnAB (dim m k : Nat) : Nat := if k < dim then m + k else k - dim
theorem FA_FB (dim : Nat) (M : List (List Int)) {k : Nat} (hk : k < dim + M.length) : turnAB dim M.length k < dim + M.length ∧ FA dim M k = FB dim M (turnAB dim M.length k) := by
 unfold turnAB FA FB
 by_cases c : k < dim
 ·rw [if_pos c, if_pos c, if_neg (by omega), show M.length + k - M.length = k by omega]
  exact ⟨by omega, rfl⟩
 ·rw [if_neg c, if_neg c, if_pos (by omega)]
  exact ⟨by omega, rfl⟩
theorem FB_FA (dim : Nat) (M : List (List Int)) {k : Nat} (hk : k < dim + M.length) : ∃ j, j < dim + M.length ∧ turnAB dim M.length j = k ∧ FB dim M k = FA dim M j := by
 by_cases c : k < M.length
 ·refine ⟨dim + k, by omega, by unfold turnAB; rw [if_neg (by omega)]; omega, ?_⟩
  unfold FA FB
  rw [if_pos c, if_neg (by omega), show dim + k - dim = k by omega]
 ·refine ⟨k - M.length, by omega, by unfold turnAB; rw [if_pos (by omega)]; omega, ?_⟩
  unfold FA FB
  rw [if_neg c, if_pos (by omega)]
theorem cornerA_B {dim : Nat} (hd : dim = 1 ∨ dim = 2 ∨ dim = 3) (M : List (List Int)) (p : List Int) : IsCorner (FA dim M) (dim + M.length) dim p ↔ IsCorner (FB dim M) (dim + M.length) dim p := by
 have h1 : ∀ k, k < dim + M.length → ∃ j, j < dim + M.length ∧ FA dim M k = FB dim M j := fun k hk => ⟨_, FA_FB dim M hk⟩
 have h2 : ∀ k, k < dim + M.length → ∃ j, j < dim + M.length ∧ FB dim M k = FA dim M j := fun k hk => by
  obtain ⟨j, a, _, b⟩ := FB_FA dim M hk
  exact ⟨j, a, b⟩
 exact ⟨corner_turn hd h1 h2, corner_turn hd h2 h1⟩
end Go.Proofs.Ytggiicplcglalaa.GmFig
end
section
namespace Go.Proofs.Ytggiicplcglalaa.GmImp
open Go.RowKit Go.Proofs.Ytggiicplcglalaa.All Go.Proofs.YtggiicplcglalaaW.PrintWords Go.Proofs.YtggiicplcglalaaW.PrintLast Go.Proofs.Ytggiicplcglalaa.Eqs Go.Proofs.Ytggiicplcglalaa.GmDet Go.Proofs.Ytggiicplcglalaa.GmRed Go.Proofs.Ytggiicplcglalaa.LH Go.Proofs.Ytggiicplcglalaa.GmCh Go.Proofs.Ytggiicplcglalaa.GmSol Go.Proofs.Ytggiicplcglalaa.GmDot Go.Proofs.Ytggiicplcglalaa.GmFig Go.Proofs.Ytggiicplcglalaa.GmPut
set_option linter.unusedVariables false
theorem ev_all {α β : Type} (G : β → Nat → Option α) (v : β → α) : ∀ L : List β, (∀ j ∈ L, Ev (G j) (v j)) → ∃ K, ∀ k, K ≤ k → ∀ j ∈ L, G j k = some (v j)
 | [], _ => ⟨0, fun _ _ _ h => by simp at h⟩
 | a :: L, h => by
  obtain ⟨K1, h1⟩ := h a (by simp)
  obtain ⟨K2, h2⟩ := ev_all G v L (fun j hj => h j (by simp [hj]))
  refine ⟨K1 + K2, fun k hk j hj => ?_⟩
  rcases List.mem_cons.1 hj with rfl | hj
  ·exact h1 k (by omega)
  ·exact h2 k (by omega) j hj
theorem any_congr {β : Type} {p q : β → Bool} : ∀ {L : List β}, (∀ j ∈ L, p j = q j) → L.any p = L.any q
 | [], _ => rfl
 | a :: L, h => by
  simp only [List.any_cons]
  rw [h a (by simp), any_congr (fun j hj => h j (by simp [hj]))]
def cnAt (l : List Cn) (j : Nat) : Cn := rd_T70 l (j : Int)
theorem cnAt_get {l : List Cn} {j : Nat} (h : j < l.length) : cnAt l j = l[j] := rdT_get h
def CL (l : List Cn) (j : Nat) : Cd := cdOf (cnAt l j)
def sgn (b : Bool) : Int := if b = true then 1 else -1
def FL (l : List Cn) (j : Nat) : H := pad (sgn (cnAt l j).f2) (CL l j)
def Conds (n : Nat) (l : List Cn) : Prop := (n = 1 ∨ n = 2 ∨ n = 3) ∧ (l.length = n + 1 ∨ l.length = n + 2 ∨ l.length = n + 3) ∧ ∀ q ∈ l, q.f0.length = n ∧ (∀ a ∈ q.f0, a.natAbs ≤ 19) ∧ q.f1.natAbs ≤ 19
theorem Conds.at {n : Nat} {l : List Cn} (h : Conds n l) {j : Nat} (hj : j < l.length) : (cnAt l j).f0.length = n ∧ (∀ a ∈ (cnAt l j).f0, a.natAbs ≤ 19) ∧ (cnAt l j).f1.natAbs ≤ 19 := by
 rw [cnAt_get hj]
 exact h.2.2 _ (List.getElem_mem hj)
theorem Conds.tells {n : Nat} {l : List Cn} (h : Conds n l) : Tells (FL l) (CL l) l.length n := by
 intro k hk
 refine ⟨(h.at hk).1, sgn (cnAt l k).f2, ?_, rfl⟩
 unfold sgn
 split
 ·exact .inl rfl
 ·exact .inr rfl
theorem meets_at {n : Nat} {l : List Cn} (h : Conds n l) {p : List Int} (hp : p.length = n + 1) (hy : ∀ b ∈ p, b.natAbs ≤ 1000000000) {j : Nat} (hj : j < l.length) :
  Ev (fun k => impl_condition_meets.f k (cnAt l j).f0 (cnAt l j).f1 (cnAt l j).f2 p) (told (cnAt l j).f2 (gap (cnAt l j).f0 (cnAt l j).f1 p)) := by
 obtain ⟨a, b, c⟩ := h.at hj
 exact evMeets _ _ _ p (by rw [a, hp]) b c hy (by rw [a]; rcases h.1 with h | h | h <;> omega)
theorem ev_at {n : Nat} {l : List Cn} (h : Conds n l) {p : List Int} (hp : p.length = n + 1) {j : Nat} (hj : j < l.length) : ev (FL l j) (emb p) = sgn (cnAt l j).f2 * gap (cnAt l j).f0 (cnAt l j).f1 p :=
 ev_gap h.1 _ _ (h.at hj).1 hp
theorem sgn_zero (b : Bool) (g : Int) : sgn b * g = 0 ↔ g = 0 := by
 unfold sgn; cases b <;> simp
def outB (l : List Cn) (p : List Int) : Bool := (List.range l.length).any fun j => decide (ev (FL l j) (emb p) < 0)
theorem evSomeOut {n : Nat} {l : List Cn} (h : Conds n l) {p : List Int} (hp : p.length = n + 1) (hy : ∀ b ∈ p, b.natAbs ≤ 1000000000) : Ev (fun k => impl_someOut.f k l p) (outB l p) := by
 obtain ⟨K, hK⟩ := ev_all (fun j k => outAt k l p j) (fun j => told (cnAt l j).f2 (gap (cnAt l j).f0 (cnAt l j).f1 p)) (List.range' 0 l.length) (fun j hj => by
  have hj' : j < l.length := by have := List.mem_range'_1.1 hj; omega
  exact meets_at h hp hy hj')
 refine ⟨K, fun k hk => ?_⟩
 have hk' := hK k hk
 show impl_someOut.f k l p = some (outB l p)
 unfold impl_someOut.f
 rw [if_pos (List.all_eq_true.mpr fun j hj => by rw [hk' j hj]; rfl)]
 congr 1
 unfold outB
 rw [List.range_eq_range']
 refine any_congr fun j hj => ?_
 have hj' : j < l.length := by have := List.mem_range'_1.1 hj; omega
 rw [hk' j hj, Option.getD_some]
 rw [decide_eq_decide, told_neg, ev_at h hp hj']
 rfl
def okS (l : List Cn) (S : List Nat) : Bool := decide (detL ((S.map (CL l)).map (·.1)) ≠ 0) && !outB l (cand (S.map (CL l)))
def ptS (l : List Cn) (S : List Nat) : List Int := red (cand (S.map (CL l)))
def ptsOf (l : List Cn) (n : Nat) : List (List Int) := ((incs l.length n 0).filter (okS l)).map (ptS l)
theorem outB_iff (l : List Cn) (p : List Int) : outB l p = false ↔ ∀ k, k < l.length → 0 ≤ ev (FL l k) (emb p) := by
 unfold outB
 rw [List.any_eq_false]
 constructor
 ·intro h k hk
  have := h k (List.mem_range.2 hk)
  simp only [decide_eq_true_eq] at this
  omega
 ·intro h k hk
  have := h k (List.mem_range.1 hk)
  simp only [decide_eq_true_eq]
  omega
theorem mem_ptsOf {n : Nat} {l : List Cn} (h : Conds n l) (p : List Int) : p ∈ ptsOf l n ↔ IsCorner (FL l) l.length n p := by
 rw [corner_iff h.tells h.1]
 unfold ptsOf
 rw [List.mem_map]
 constructor
 ·rintro ⟨S, hS, rfl⟩
  obtain ⟨h1, h2⟩ := List.mem_filter.1 hS
  obtain ⟨a, b, c⟩ := (mem_incs _ _ _ _).1 h1
  unfold okS at h2
  rw [Bool.and_eq_true, Bool.not_eq_true'] at h2
  exact ⟨S, a, b, fun k hk => (c k hk).2, of_decide_eq_true h2.1, (outB_iff _ _).1 h2.2, rfl⟩
 ·rintro ⟨S, a, b, c, d, e, rfl⟩
  refine ⟨S, List.mem_filter.2 ⟨(mem_incs _ _ _ _).2 ⟨a, b, fun k hk => ⟨Nat.zero_le _, c k hk⟩⟩, ?_⟩, rfl⟩
  unfold okS
  rw [Bool.and_eq_true, Bool.not_eq_true']
  exact ⟨decide_eq_true d, (outB_iff _ _).2 e⟩
theorem sq_of {n : Nat} {l : List Cn} (h : Conds n l) {S : List Nat} (hS : S.length = n) (hN : ∀ k ∈ S, k < l.length) : Sq n (S.map (cnAt l)) := by
 refine ⟨by simp [hS], fun q hq => ?_⟩
 obtain ⟨j, hj, rfl⟩ := List.mem_map.1 hq
 exact h.at (hN j hj)
theorem map_cd (l : List Cn) (S : List Nat) : (S.map (cnAt l)).map cdOf = S.map (CL l) := by
 rw [List.map_map]; rfl
theorem cand_bd {n : Nat} (hn : n = 1 ∨ n = 2 ∨ n = 3) (x0 : List Cn) (hs : Sq n x0) : ∀ b ∈ cand (x0.map cdOf), b.natAbs ≤ 185193 := by
 intro b hb
 rw [cand_of x0 hs.1] at hb
 rcases List.mem_append.1 hb with h | h
 ·obtain ⟨c, _, rfl⟩ := List.mem_map.1 h
  have := (specDetL hn (hs.cols c).1 (hs.cols c).2).1
  split <;> omega
 ·have e : b = ((detL (x0.map (·.f0))).natAbs : Int) := by simpa using h
  have := (specDetL hn hs.rows.1 hs.rows.2).1
  omega
theorem red_bd (q : List Int) (B : Nat) (h : ∀ b ∈ q, b.natAbs ≤ B) : ∀ b ∈ red q, b.natAbs ≤ B := by
 intro b hb
 obtain ⟨x, hx, rfl⟩ := List.mem_map.1 hb
 have h1 := h x hx
 have h2 := red_mul hx
 rcases Nat.eq_zero_or_pos (gcdL q) with e | e
 ·rw [e]; simp
 ·have := congrArg Int.natAbs h2
  rw [Int.natAbs_mul, Int.natAbs_natCast] at this
  have h3 : (x / (gcdL q : Int)).natAbs ≤ gcdL q * (x / (gcdL q : Int)).natAbs := Nat.le_mul_of_pos_left _ e
  omega
theorem ptsOf_bd {n : Nat} {l : List Cn} (h : Conds n l) {p : List Int} (hp : p ∈ ptsOf l n) : p.length = n + 1 ∧ ∀ b ∈ p, b.natAbs ≤ 185193 := by
 refine ⟨((mem_ptsOf h p).1 hp).1, ?_⟩
 obtain ⟨S, hS, rfl⟩ := List.mem_map.1 hp
 obtain ⟨h1, _⟩ := List.mem_filter.1 hS
 obtain ⟨a, b, c⟩ := (mem_incs _ _ _ _).1 h1
 refine red_bd _ _ ?_
 rw [← map_cd]
 exact cand_bd h.1 _ (sq_of h a fun k hk => (c k hk).2)
theorem cand_last {n : Nat} (hn : n = 1 ∨ n = 2 ∨ n = 3) {q : List Int} (hq : q.length = n + 1) (h : 0 < (emb q).2.2.2) : ∃ x ∈ q, 0 < x := by
 rcases hn with rfl | rfl | rfl
 ·obtain ⟨a, d, rfl⟩ := len2 hq; exact ⟨d, by simp, h⟩
 ·obtain ⟨a, b, d, rfl⟩ := len3 hq; exact ⟨d, by simp, h⟩
 ·obtain ⟨a, b, c, d, rfl⟩ := len4 hq; exact ⟨d, by simp, h⟩
def NonNeg (n : Nat) (l : List Cn) : Prop := ∀ p : List Int, p.length = n + 1 → 0 < (emb p).2.2.2 → (∀ k, k < l.length → 0 ≤ ev (FL l k) (emb p)) → ∀ x ∈ p, 0 ≤ x
def putOk (l : List Cn) (x3 : List (List Int)) (S : List Nat) : List (List Int) := if okS l S = true then x3 ++ [ptS l S] else x3
theorem ic_l1 {n : Nat} {l : List Cn} (h : Conds n l) (hpos : NonNeg n l) (x3 : List (List Int)) (hx3 : x3.length < 5864062014805) (S : List Nat) (hS : S.length = n) (hN : ∀ k ∈ S, k < l.length) (a0 : Int) (x16 : List (List Int)) (x17 x18 : Int) (v : List (List Int))
  (hfin : Ev (fun k => impl_figure_corners.l0 k (putOk l x3 S) x16 x17 (wrap64 (x18 + 1)) a0 l) v) (d : Nat) :
  ∀ i : Nat, i + d = S.length → Ev (fun k => impl_figure_corners.l1 k x3 ((S.take i).map (cnAt l)) x16 x17 x18 (S.map Int.ofNat) (S.length : Int) (i : Int) a0 l) v := by
 have hn3 : n ≤ 3 := by rcases h.1 with h | h | h <;> omega
 have hll : l.length ≤ 6 := by rcases h.2.1 with h | h | h <;> omega
 induction d with
 | zero =>
  intro i hi
  rw [List.take_of_length_le (by omega)]
  have hsq := sq_of h hS hN
  have hsol := evSolve h.1 _ hsq
  rw [map_cd] at hsol
  refine Ev.step (f := fun k => (impl_solve.f k (S.map (cnAt l))).bind fun t535 => (if t535 = [] then (impl_figure_corners.l0 k x3 x16 x17 (wrap64 (x18 + 1)) a0 l) else ((impl_someOut.f k l t535).bind fun t539 => (if t539 = true then (impl_figure_corners.l0 k x3 x16 x17 (wrap64 (x18 + 1)) a0 l) else ((impl_reduced.f k t535).bind fun t540 => (if x3.length < 5864062014805 then (impl_figure_corners.l0 k (x3 ++ [t540]) x16 x17 (wrap64 (x18 + 1)) a0 l) else (none))))))) (fun k => ?_) (Ev.bind hsol ?_)
  ·simp only [impl_figure_corners.l1]
   rw [if_neg (by omega)]
  ·unfold putOk okS at hfin
   by_cases c : detL ((S.map (CL l)).map (·.1)) = 0
   ·rw [if_pos c]
    simp only [if_true]
    rw [decide_eq_false (by simpa using c), Bool.false_and, if_neg (by decide)] at hfin
    exact hfin
   ·rw [if_neg c]
    have hlc : (S.map (CL l)).length = n := by simp [hS]
    have hl : (cand (S.map (CL l))).length = n + 1 := by rw [cand_len, hlc]
    have hne : cand (S.map (CL l)) ≠ [] := fun e => by rw [e] at hl; simp at hl
    simp only [if_neg hne]
    have hbd := cand_bd h.1 _ hsq
    rw [map_cd] at hbd
    have hcp := cand_pos h.1 hlc c
    rw [decide_eq_true (by simpa using c), Bool.true_and] at hfin
    refine Ev.bind (evSomeOut h hl (fun b hb => by have := hbd b hb; omega)) ?_
    cases ho : outB l (cand (S.map (CL l))) with
    | true =>
     rw [ho] at hfin
     simp only [if_true]
     exact hfin
    | false =>
     rw [ho] at hfin
     simp only [Bool.false_eq_true, if_false]
     have hin := (outB_iff _ _).1 ho
     have hnn := hpos _ hl hcp hin
     obtain ⟨x, hx, hx0⟩ := cand_last h.1 hl hcp
     refine Ev.bind (implRed _ (fun x hx => ⟨hnn x hx, by have := hbd x hx; omega⟩) (by omega) (gcdL_pos hx hx0)) ?_
     simp only [if_pos hx3]
     exact hfin
 | succ d ih =>
  intro i hi
  have h1 : i < S.length := by omega
  have hk := hN _ (List.getElem_mem h1)
  have ei : wrap64 ((i : Int) + 1) = ((i + 1 : Nat) : Int) := by unfold wrap64; omega
  have er : rd (S.map Int.ofNat) (i : Int) = ((S[i] : Nat) : Int) := by
   rw [rd_getElem (by simpa using h1)]
   simp
  refine Ev.step (fun k => ?_) (ih (i + 1) (by omega))
  simp only [impl_figure_corners.l1]
  rw [if_pos (by omega), if_pos (by omega), if_pos (by simp; omega), er, if_pos (by omega), if_pos (by omega), if_pos (by simp; omega), ei, List.take_succ_eq_append_getElem h1, List.map_append]
  rfl
theorem ic_l0 {n : Nat} {l : List Cn} (h : Conds n l) (hpos : NonNeg n l) (L : List (List Nat)) (hL : L.length ≤ 1000) (hLn : ∀ S ∈ L, S.length = n ∧ ∀ k ∈ S, k < l.length) (a0 : Int) (hne : ((L.filter (okS l)).map (ptS l)) ≠ []) (d : Nat) :
  ∀ i : Nat, i + d = L.length → Ev (fun k => impl_figure_corners.l0 k (((L.take i).filter (okS l)).map (ptS l)) (asInts L) (L.length : Int) (i : Int) a0 l) (sortUniq ((L.filter (okS l)).map (ptS l))) := by
 have hle : ∀ M : List (List Nat), ((M.filter (okS l)).map (ptS l)).length ≤ M.length := fun M => by rw [List.length_map]; exact List.length_filter_le _ _
 induction d with
 | zero =>
  intro i hi
  rw [List.take_of_length_le (by omega)]
  refine Ev.step (fun k => ?_) (Ev.now _)
  simp only [impl_figure_corners.l0]
  have := hle L
  rw [if_neg (by omega), if_neg hne, if_pos (by omega)]
 | succ d ih =>
  intro i hi
  have h1 : i < L.length := by omega
  obtain ⟨s1, s2⟩ := hLn _ (List.getElem_mem h1)
  have ei : wrap64 ((i : Int) + 1) = ((i + 1 : Nat) : Int) := by unfold wrap64; omega
  have er : rd_L1 (asInts L) (i : Int) = (L[i]).map Int.ofNat := by
   unfold asInts
   simp [rd_L1, List.getD, List.getElem?_eq_getElem h1]
  have hl1 := hle (L.take i)
  have hl2 : (L.take i).length ≤ L.length := by simp; omega
  have es : ((L.take (i + 1)).filter (okS l)).map (ptS l) = putOk l (((L.take i).filter (okS l)).map (ptS l)) L[i] := by
   unfold putOk
   rw [List.take_succ_eq_append_getElem h1, List.filter_append, List.map_append]
   by_cases c : okS l L[i] = true
   ·rw [if_pos c]; simp [c]
   ·rw [if_neg c]; simp [c]
  have key := ih (i + 1) (by omega)
  rw [es] at key
  refine Ev.step (f := fun k => impl_figure_corners.l1 k (((L.take i).filter (okS l)).map (ptS l)) (((L[i]).take 0).map (cnAt l)) (asInts L) (L.length : Int) (i : Int) ((L[i]).map Int.ofNat) ((L[i]).length : Int) ((0 : Nat) : Int) a0 l) (fun k => ?_)
   (ic_l1 h hpos _ (by omega) L[i] s1 s2 a0 _ _ _ _ ?_ (L[i]).length 0 (by omega))
  ·simp only [impl_figure_corners.l0]
   rw [if_pos (by omega), if_pos (by omega), if_pos (by unfold asInts; simp; omega), er]
   simp
  ·rw [ei]
   exact key
theorem incs_len (N n : Nat) (h : (n = 1 ∨ n = 2 ∨ n = 3) ∧ (N = n + 1 ∨ N = n + 2 ∨ N = n + 3)) : (incs N n 0).length ≤ 20 := by
 obtain ⟨h1, h2⟩ := h
 rcases h1 with rfl | rfl | rfl <;> rcases h2 with rfl | rfl | rfl <;> decide
theorem evCorners {n : Nat} {l : List Cn} (h : Conds n l) (hpos : NonNeg n l) (hne : ptsOf l n ≠ []) : Ev (fun k => impl_figure_corners.f k (n : Int) l) (sortUniq (ptsOf l n)) := by
 unfold impl_figure_corners.f
 refine Ev.bind (evChoices l.length n ⟨h.1, h.2.1⟩) ?_
 have hl := incs_len l.length n ⟨h.1, h.2.1⟩
 have := ic_l0 h hpos (incs l.length n 0) (by omega) (fun S hS => by
  obtain ⟨a, b, c⟩ := (mem_incs _ _ _ _).1 hS
  exact ⟨a, fun k hk => (c k hk).2⟩) (n : Int) hne (incs l.length n 0).length 0 (by omega)
 refine Ev.congr (fun k => ?_) this
 simp only [asInts, List.length_map]
 rfl
theorem cmpL_lex : ∀ {a b : List Int}, a.length = b.length → (cmpL a b < 0 ↔ lexlt a b = true)
 | [], [], _ => by simp [cmpL, lexlt]
 | [], _ :: _, h => by simp at h
 | _ :: _, [], h => by simp at h
 | x :: a, y :: b, h => by
  have ih := cmpL_lex (a := a) (b := b) (by simpa using h)
  simp only [cmpL, lexlt]
  by_cases e : x = y
  ·subst e
   simp only [Int.lt_irrefl, if_false, if_true]
   exact ih
  ·rw [if_neg e]
   by_cases c : x < y
   ·simp [c]
   ·rw [if_neg c, if_pos (show y < x by omega)]
    simp [c]
theorem corners_sorted {n : Nat} {l : List Cn} (h : Conds n l) : Sorted (sortUniq (ptsOf l n)) := by
 refine (sortUniq_sorted (ptsOf l n)).imp_of_mem fun {a b} ha hb hab => ?_
 rw [sortUniq_mem] at ha hb
 exact (cmpL_lex (by rw [((mem_ptsOf h a).1 ha).1, ((mem_ptsOf h b).1 hb).1])).1 hab
theorem mem_corners {n : Nat} {l : List Cn} (h : Conds n l) (p : List Int) : p ∈ sortUniq (ptsOf l n) ↔ IsCorner (FL l) l.length n p := by
 rw [sortUniq_mem, mem_ptsOf h]
theorem lab_l0 {n : Nat} {l : List Cn} (h : Conds n l) (p : List Int) (hp : p.length = n + 1) (hy : ∀ b ∈ p, b.natAbs ≤ 1000000000) (d : Nat) :
  ∀ i : Nat, i + d = l.length → Ev (fun k => impl_figure_labelsAt.l0 k p (((List.range i).filter fun j => decide (ev (FL l j) (emb p) = 0)).map Int.ofNat) l (l.length : Int) (i : Int)) ((labs (FL l) l.length (emb p)).map Int.ofNat) := by
 have hll : l.length ≤ 6 := by rcases h.1 with e | e | e <;> rcases h.2.1 with h | h | h <;> omega
 induction d with
 | zero =>
  intro i hi
  obtain rfl : i = l.length := by omega
  refine Ev.step (fun k => ?_) (Ev.now _)
  simp only [impl_figure_labelsAt.l0]
  rw [if_neg (by omega)]
  rfl
 | succ d ih =>
  intro i hi
  have h1 : i < l.length := by omega
  have ei : wrap64 ((i : Int) + 1) = ((i + 1 : Nat) : Int) := by unfold wrap64; omega
  have key := ih (i + 1) (by omega)
  rw [List.range_succ, List.filter_append, List.map_append] at key
  have hle : (((List.range i).filter fun j => decide (ev (FL l j) (emb p) = 0)).map Int.ofNat).length ≤ i := by
   rw [List.length_map]
   exact Nat.le_trans (List.length_filter_le _ _) (by simp)
  refine Ev.step (f := fun k => (impl_condition_meets.f k (cnAt l i).f0 (cnAt l i).f1 (cnAt l i).f2 p).bind fun t683 => (if t683 = 0 then (if (((List.range i).filter fun j => decide (ev (FL l j) (emb p) = 0)).map Int.ofNat).length < 17592186044416 then (impl_figure_labelsAt.l0 k p ((((List.range i).filter fun j => decide (ev (FL l j) (emb p) = 0)).map Int.ofNat) ++ [(i : Int)]) l (l.length : Int) (wrap64 ((i : Int) + 1))) else (none)) else (impl_figure_labelsAt.l0 k p (((List.range i).filter fun j => decide (ev (FL l j) (emb p) = 0)).map Int.ofNat) l (l.length : Int) (wrap64 ((i : Int) + 1))))) (fun k => ?_) (Ev.bind (meets_at h hp hy h1) ?_)
  ·simp only [impl_figure_labelsAt.l0]
   rw [if_pos (by omega), if_pos (by omega), if_pos (by omega)]
   rfl
  ·rw [ei]
   have e0 : told (cnAt l i).f2 (gap (cnAt l i).f0 (cnAt l i).f1 p) = 0 ↔ ev (FL l i) (emb p) = 0 := by
    rw [told_zero, ev_at h hp h1, sgn_zero]
   by_cases c : ev (FL l i) (emb p) = 0
   ·simp only [if_pos (e0.2 c)]
    refine Ev.congr (fun k => by rw [if_pos (by omega)]) ?_
    simpa [c] using key
   ·simp only [if_neg (fun e => c (e0.1 e))]
    simpa [c] using key
theorem evLabels {n : Nat} {l : List Cn} (h : Conds n l) (p : List Int) (hp : p.length = n + 1) (hy : ∀ b ∈ p, b.natAbs ≤ 1000000000) (a0 : Int) : Ev (fun k => impl_figure_labelsAt.f k a0 l p) ((labs (FL l) l.length (emb p)).map Int.ofNat) :=
 lab_l0 h p hp hy l.length 0 (by omega)
end Go.Proofs.Ytggiicplcglalaa.GmImp
end
