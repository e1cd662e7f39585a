/- Part of the proof that the law FnExactIsRegularGame answers true for all arguments. -/
import Derived.Test.YtggiicplcglalaaQR5
section
namespace Go.Proofs.Ytggiicplcglalaa.All
open Go.RowKit Go.Proofs.YtggiicplcglalaaW.PrintWords Go.Proofs.YtggiicplcglalaaW.PrintLast Go.Proofs.YtggiicplcglalaaW.PrintMore
attribute [local go_sem] max2_int min2_int max_two min_two max_three min_three max_four min_four
set_option linter.unusedVariables false
set_option linter.unusedSimpArgs false
def rowVal (w : World) (A0 : Option Addr) (j : Nat) : Value := (A0.bind fun ad => w.cell? (ad.add j)).getD (.bool false)
theorem rows_at {w : World} {A0 : Option Addr} {xs : List (List Int)} (h : Kd.C (Kd.slice 3 (Kd.int .i64)) w A0 xs.length xs) : CellsAt w A0 (rowVal w A0) xs.length ∧ ∀ j, j < xs.length → ∃ A c, rowVal w A0 j = .slice A (xs.getD j []).length c ∧ (xs.getD j []).length ≤ c ∧ Kd.C (Kd.int .i64) w A (xs.getD j []).length (xs.getD j []) := by
 have key : ∀ j, j < xs.length → ∃ ad A c, A0 = some ad ∧ w.cell? (ad.add j) = some (.slice A (xs.getD j []).length c) ∧ (xs.getD j []).length ≤ c ∧ Kd.C (Kd.int .i64) w A (xs.getD j []).length (xs.getD j []) := by
  intro j hj
  obtain ⟨ad, cs, e, _, hK, hc⟩ := Kd.C_get h ([] : List Int) (j : Int) (by omega) (by omega)
  obtain ⟨A, c, rfl, hl, hr⟩ := hK
  refine ⟨ad, A, c, e, ?_, hl, hr⟩
  have := hc 0 _ rfl
  rwa [show (Kd.slice 3 (Kd.int .i64)).sz = 1 from rfl, Nat.mul_one, Nat.add_zero] at this
 constructor
 ·intro j hj
  obtain ⟨ad, A, c, rfl, hx, _⟩ := key j hj
  exact ⟨ad, rfl, by simp [rowVal, hx]⟩
 ·intro j hj
  obtain ⟨ad, A, c, rfl, hx, hl, hr⟩ := key j hj
  exact ⟨A, c, by simp [rowVal, hx], hl, hr⟩
set_option maxHeartbeats 4000000 in
set_option maxRecDepth 100000 in
theorem indexFuncR (g : Nat) (lb : Array Value) (eg : ∀ args w, (callFunc g args).run Try.prog w = .ok (.enter g args) w) (v : Nat → Value) (q : Nat → Bool) (A0 : Option Addr) (n c : Nat) (w : World)
  (hp : AnswersAt g lb v q n w) (hn : n ≤ 9223372036854775807) (hc : CellsAt w A0 v n) :
  Calls Try.prog 72 #[.slice A0 n c, .func (.func g) #[] lb] w fun e w' => e = .returned (.int .i64 (firstAt q n 0)) ∧ Below w.heap.size w w' := by
 have hrow : ∀ (W : World), Below w.heap.size w W → CellsAt W A0 v n := fun W hW j hj => by
  obtain ⟨ad, e, hx⟩ := hc j hj
  exact ⟨ad, e, pw_cell_below hW hx⟩
 have HP := Aside0.mk hp
 have HR := Aside0.mk hrow
 have HN := Aside0.mk hn
 clear hc hp hrow hn
 go_enter Try.func72, Try.ntmps72
 go_wp2
 go_loopg [5, 8] n (fun gg _ s8 wr => ∃ kk : Nat, kk ≤ n ∧ n - kk ≤ gg ∧ s8 = .int .i64 kk ∧ Aside0 (Below w.heap.size w wr) ∧ Aside0 (∀ j, j < kk → q j = false))
 case atStart => exact ⟨0, Nat.zero_le _, by omega, rfl, ⟨Below.refl _ w⟩, ⟨fun j hj => absurd hj (Nat.not_lt_zero _)⟩⟩
 case round =>
  obtain ⟨kk, hkk, hg, rfl, BW, A⟩ := hrel
  have hn' := HN.out
  by_cases hlt : kk < n
  ·have hltz : (kk : Int) < (n : Int) := by omega
   obtain ⟨ad, ea, l2⟩ := HR.out wr BW.out kk hlt
   cases ea
   have hcall := HP.out kk hlt wr BW.out
   generalize hy : v kk = y at l2 hcall
   clear hy
   cases hq : q kk with
   | true =>
    rw [hq] at hcall
    have HQ := Aside0.mk hq
    clear hq
    go_wp2_with (go_at_fn g; refine hcall.mono ?_; rintro e w' ⟨rfl, hb'⟩)
    go_ret
    refine ⟨?_, hb'⟩
    rw [firstAt_hit q kk HQ.out n 0 (Nat.zero_le _) (by omega) (fun m _ h => A.out m h)]
    rfl
   | false =>
    rw [hq] at hcall
    have HQ := Aside0.mk hq
    clear hq
    go_wp2_with (go_at_fn g; refine hcall.mono ?_; rintro e w' ⟨rfl, hb'⟩)
    go_roundg (n - (kk + 1))
    case measure => omega
    case rel =>
     refine ⟨kk + 1, by omega, by omega, by go_num, ⟨hb'⟩, ⟨fun j hj => ?_⟩⟩
     by_cases e : j = kk
     ·subst e; exact HQ.out
     ·exact A.out j (by omega)
  ·have hltz : ¬ (kk : Int) < (n : Int) := by omega
   have : kk = n := by omega
   subst this
   go_wp2
   go_ret
   refine ⟨?_, BW.out⟩
   rw [firstAt_miss q kk 0 (fun m _ h => A.out m (by omega))]
   rfl
theorem firstAt_geR (q : Nat → Bool) : ∀ d i, decide (0 ≤ firstAt q d i) = (List.range' i d).any q
 | 0, i => by simp [firstAt]
 | d + 1, i => by
  unfold firstAt
  rw [List.range'_succ, List.any_cons]
  cases h : q i with
  | true => simp
  | false => simp [firstAt_geR q d (i + 1)]
set_option maxHeartbeats 4000000 in
set_option maxRecDepth 100000 in
theorem containsFuncR (g : Nat) (lb : Array Value) (eg : ∀ args w, (callFunc g args).run Try.prog w = .ok (.enter g args) w) (v : Nat → Value) (q : Nat → Bool) (A0 : Option Addr) (n c : Nat) (w : World)
  (hp : AnswersAt g lb v q n w) (hn : n ≤ 9223372036854775807) (hc : CellsAt w A0 v n) :
  Calls Try.prog 37 #[.slice A0 n c, .func (.func g) #[] lb] w fun e w' => e = .returned (.bool ((List.range' 0 n).any q)) ∧ Below w.heap.size w w' := by
 have h1 := indexFuncR g lb eg v q A0 n c w hp hn hc
 have HE := Aside0.mk (firstAt_geR q n 0)
 clear hp hc
 go_enter Try.func37, Try.ntmps37
 go_wp2_with (go_at_call 72; refine h1.mono ?_; rintro e w' ⟨rfl, hb'⟩)
 go_ret
 refine ⟨?_, hb'⟩
 rw [← HE.out]
 rfl
def impl_in.f (a0 : Int) (a1 : Int) (a2 : Int) : Option (Bool) := if a1 ≤ a0 then (some (decide (a0 ≤ a2))) else (some false)
set_option maxHeartbeats 8000000 in
set_option maxRecDepth 100000 in
theorem impl_in.calls (a0 : Int) (a1 : Int) (a2 : Int) (r : Bool) (w : World) (h : impl_in.f a0 a1 a2 = some r) :
  Calls Try.prog 76 #[.int .i64 a0, .int .i64 a1, .int .i64 a2] w fun e w' => e = .returned (.bool r) ∧ Drawn0 w w' := by
 have H : (if a1 ≤ a0 then (some (decide (a0 ≤ a2))) else (some false)) = some r := h
 clear h
 by_cases c4 : a1 ≤ a0
 ·rw [if_pos c4] at H
  have c4b0 := decide_eq_true c4
  clear c4
  obtain rfl := Option.some.inj H
  go_enter Try.func76, Try.ntmps76
  go_wp2
  go_ret
  exact ⟨by first | rfl | (simp; done) | (simp [i64_w]; done) | (simp [*]; done), by repeat (first | exact Drawn0.refl _ | apply Drawn0.step)⟩
 ·rw [if_neg c4] at H
  have c4b0 := decide_eq_false c4
  clear c4
  obtain rfl := Option.some.inj H
  go_enter Try.func76, Try.ntmps76
  go_wp2
  go_ret
  exact ⟨by first | rfl | (simp; done) | (simp [i64_w]; done) | (simp [*]; done), by repeat (first | exact Drawn0.refl _ | apply Drawn0.step)⟩
def inB (lo hi x : Int) : Bool := decide (lo ≤ x) && decide (x ≤ hi)
theorem in_is (x lo hi : Int) : impl_in.f x lo hi = some (inB lo hi x) := by
 unfold impl_in.f inB
 by_cases h : lo ≤ x <;> simp [h]
def anyOut (lo hi : Int) (l : List Int) : Bool := (List.range' 0 l.length).any fun j => !inB lo hi (l.getD j 0)
set_option maxHeartbeats 4000000 in
set_option maxRecDepth 100000 in
theorem indexFuncI (g : Nat) (lb : Array Value) (eg : ∀ args w, (callFunc g args).run Try.prog w = .ok (.enter g args) w) (v : Nat → Value) (q : Nat → Bool) (A0 : Option Addr) (n c : Nat) (w : World)
  (hp : AnswersAt g lb v q n w) (hn : n ≤ 9223372036854775807) (hc : CellsAt w A0 v n) :
  Calls Try.prog 89 #[.slice A0 n c, .func (.func g) #[] lb] w fun e w' => e = .returned (.int .i64 (firstAt q n 0)) ∧ Below w.heap.size w w' := by
 have hrow : ∀ (W : World), Below w.heap.size w W → CellsAt W A0 v n := fun W hW j hj => by
  obtain ⟨ad, e, hx⟩ := hc j hj
  exact ⟨ad, e, pw_cell_below hW hx⟩
 have HP := Aside0.mk hp
 have HR := Aside0.mk hrow
 have HN := Aside0.mk hn
 clear hc hp hrow hn
 go_enter Try.func89, Try.ntmps89
 go_wp2
 go_loopg [5, 8] n (fun gg _ s8 wr => ∃ kk : Nat, kk ≤ n ∧ n - kk ≤ gg ∧ s8 = .int .i64 kk ∧ Aside0 (Below w.heap.size w wr) ∧ Aside0 (∀ j, j < kk → q j = false))
 case atStart => exact ⟨0, Nat.zero_le _, by omega, rfl, ⟨Below.refl _ w⟩, ⟨fun j hj => absurd hj (Nat.not_lt_zero _)⟩⟩
 case round =>
  obtain ⟨kk, hkk, hg, rfl, BW, A⟩ := hrel
  have hn' := HN.out
  by_cases hlt : kk < n
  ·have hltz : (kk : Int) < (n : Int) := by omega
   obtain ⟨ad, ea, l2⟩ := HR.out wr BW.out kk hlt
   cases ea
   have hcall := HP.out kk hlt wr BW.out
   generalize hy : v kk = y at l2 hcall
   clear hy
   cases hq : q kk with
   | true =>
    rw [hq] at hcall
    have HQ := Aside0.mk hq
    clear hq
    go_wp2_with (go_at_fn g; refine hcall.mono ?_; rintro e w' ⟨rfl, hb'⟩)
    go_ret
    refine ⟨?_, hb'⟩
    rw [firstAt_hit q kk HQ.out n 0 (Nat.zero_le _) (by omega) (fun m _ h => A.out m h)]
    rfl
   | false =>
    rw [hq] at hcall
    have HQ := Aside0.mk hq
    clear hq
    go_wp2_with (go_at_fn g; refine hcall.mono ?_; rintro e w' ⟨rfl, hb'⟩)
    go_roundg (n - (kk + 1))
    case measure => omega
    case rel =>
     refine ⟨kk + 1, by omega, by omega, by go_num, ⟨hb'⟩, ⟨fun j hj => ?_⟩⟩
     by_cases e : j = kk
     ·subst e; exact HQ.out
     ·exact A.out j (by omega)
  ·have hltz : ¬ (kk : Int) < (n : Int) := by omega
   have : kk = n := by omega
   subst this
   go_wp2
   go_ret
   refine ⟨?_, BW.out⟩
   rw [firstAt_miss q kk 0 (fun m _ h => A.out m (by omega))]
   rfl
theorem firstAt_geI (q : Nat → Bool) : ∀ d i, decide (0 ≤ firstAt q d i) = (List.range' i d).any q
 | 0, i => by simp [firstAt]
 | d + 1, i => by
  unfold firstAt
  rw [List.range'_succ, List.any_cons]
  cases h : q i with
  | true => simp
  | false => simp [firstAt_geI q d (i + 1)]
set_option maxHeartbeats 4000000 in
set_option maxRecDepth 100000 in
theorem containsFuncI (g : Nat) (lb : Array Value) (eg : ∀ args w, (callFunc g args).run Try.prog w = .ok (.enter g args) w) (v : Nat → Value) (q : Nat → Bool) (A0 : Option Addr) (n c : Nat) (w : World)
  (hp : AnswersAt g lb v q n w) (hn : n ≤ 9223372036854775807) (hc : CellsAt w A0 v n) :
  Calls Try.prog 78 #[.slice A0 n c, .func (.func g) #[] lb] w fun e w' => e = .returned (.bool ((List.range' 0 n).any q)) ∧ Below w.heap.size w w' := by
 have h1 := indexFuncI g lb eg v q A0 n c w hp hn hc
 have HE := Aside0.mk (firstAt_geI q n 0)
 clear hp hc
 go_enter Try.func78, Try.ntmps78
 go_wp2_with (go_at_call 89; refine h1.mono ?_; rintro e w' ⟨rfl, hb'⟩)
 go_ret
 refine ⟨?_, hb'⟩
 rw [← HE.out]
 rfl
def impl_isTable_1_1.f (a0 : Int) : Option (Bool) := (impl_in.f a0 (-9) 9).bind fun t321 => (some (!t321))
set_option maxHeartbeats 8000000 in
set_option maxRecDepth 100000 in
theorem impl_isTable_1_1.calls (a0 : Int) (r : Bool) (w : World) (h : impl_isTable_1_1.f a0 = some r) :
  Calls Try.prog 79 #[.int .i64 a0] w fun e w' => e = .returned (.bool r) ∧ Drawn0 w w' := by
 have H : ((impl_in.f a0 (-9) 9).bind fun t321 => (some (!t321))) = some r := h
 clear h
 replace H := bindA H; obtain ⟨t321, A2, H⟩ := H
 obtain rfl := Option.some.inj H
 go_enter Try.func79, Try.ntmps79
 go_wp2_with (first | ((with_reducible refine gate_callee (f := 76) rfl ?_); refine goesL_ (some 4) rfl rfl Try.func76 (by kernel_rfl) rfl #[.int .i64 a0, .int .i64 (-9), .int .i64 9] rfl szE ?_; (with_reducible refine (impl_in.calls a0 (-9) 9 t321 _ A2.out).mono ?_); rintro e w' ⟨rfl, ⟨nd, rfl⟩⟩; refine ⟨_, rfl, ?_⟩))
 go_ret
 exact ⟨by first | rfl | (simp; done) | (simp [i64_w]; done) | (simp [*]; done), by repeat (first | exact Drawn0.refl _ | apply Drawn0.step)⟩
theorem pays_answers (l : List Int) (w : World) : AnswersAt 79 #[] (fun j => .int .i64 (l.getD j 0)) (fun j => !inB (-9) 9 (l.getD j 0)) l.length w := by
 intro j hj W hb
 refine (impl_isTable_1_1.calls (l.getD j 0) (!inB (-9) 9 (l.getD j 0)) W (by unfold impl_isTable_1_1.f; rw [in_is]; rfl)).mono ?_
 rintro e w' ⟨rfl, ⟨m, rfl⟩⟩
 exact ⟨rfl, pw_below_drewN hb _⟩
def badRow (n : Nat) (row : List Int) : Bool := ((row.length : Int) != (n : Int)) || anyOut (-9) 9 row
def anyBadRow (n : Nat) (l : List (List Int)) : Bool := (List.range' 0 l.length).any fun j => badRow n (l.getD j [])
def impl_isTable.f (l0 : List (List Int)) : Option Bool := if inB 1 3 (l0.length : Int) = true then (if inB 1 3 ((l0.getD 0 []).length : Int) = true then some (!anyBadRow (l0.getD 0 []).length l0) else some false) else some false
set_option maxHeartbeats 4000000 in
theorem table_answers (C : Nat) (A0 : Option Addr) (c0 : Nat) (l : List (List Int)) (w : World) (hl0 : 0 < l.length) (hC : C < w.heap.size) (hc : w.cell? ⟨C, 0, none⟩ = some (.slice A0 l.length c0)) (hr : Kd.C (Kd.slice 3 (Kd.int .i64)) w A0 l.length l) :
  AnswersAt 77 #[.pointer (some ⟨C, 0, none⟩)] (rowVal w A0) (fun j => badRow (l.getD 0 []).length (l.getD j [])) l.length w := by
 intro j hj W hbl
 obtain ⟨A, c, ev, hl, hcr⟩ := (rows_at hr).2 j hj
 obtain ⟨A', c', ev', hl', hcr'⟩ := (rows_at hr).2 0 hl0
 obtain ⟨ad, hA, hx⟩ := (rows_at hr).1 0 hl0
 subst hA
 rw [ev', Addr.add_zero'] at hx
 have hx0 := hx
 replace hx := (hbl.cell (p := ad) (World.block_lt_of_cell? w _ hx)).trans hx
 show Calls Try.prog 77 #[rowVal w (some ad) j, .pointer (some ⟨C, 0, none⟩)] W (fun e w' => e = .returned (.bool (badRow (l.getD 0 []).length (l.getD j []))) ∧ Below w.heap.size w w')
 rw [ev]
 have hc' : W.cell? ⟨C, 0, none⟩ = some (.slice (some ad) l.length c0) := (hbl.cell (p := ⟨C, 0, none⟩) hC).trans hc
 have hcrW := Kd.C_below hcr hbl
 have hcf := containsFuncI 79 #[] (enters_of Try.func79 (by kernel_rfl) rfl) _ _ A (l.getD j []).length c W (pays_answers (l.getD j []) W) hcr.2.1 (cells_int hcrW)
 have HCF := Aside0.mk hcf
 have HB := Aside0.mk hbl
 clear hcf hbl hc hcr hr hl ev hcrW hC ev' hl' hcr'
 generalize l.getD j [] = x at HCF ⊢
 generalize l.getD 0 [] = y at hx ⊢
 have g0 : decide ((0 : Int) < (l.length : Int)) = true := decide_eq_true (by omega)
 unfold badRow anyOut
 by_cases e1 : (x.length : Int) = (y.length : Int)
 ·have f1 : ((x.length : Int) != (y.length : Int)) = false := bne_eq_false_iff_eq.mpr e1
  have f2 : ((x.length : Int) == (y.length : Int)) = true := beq_iff_eq.mpr e1
  clear e1
  rw [f1]
  generalize (List.range' 0 x.length).any (fun j => !inB (-9) 9 (x.getD j 0)) = r at HCF ⊢
  go_enter Try.func77, Try.ntmps77
  go_wp2_with (go_at_call 78; refine HCF.out.mono ?_; rintro e w2 ⟨rfl, h2⟩; have HB2 := Aside0.mk (HB.out.trans (h2.mono HB.out.size)); clear h2)
  go_ret
  exact ⟨rfl, HB2.out⟩
 ·have f1 : ((x.length : Int) != (y.length : Int)) = true := bne_iff_ne.mpr e1
  have f2 : ((x.length : Int) == (y.length : Int)) = false := beq_eq_false_iff_ne.mpr e1
  clear e1
  rw [f1]
  go_enter Try.func77, Try.ntmps77
  go_wp2
  go_ret
  exact ⟨rfl, HB.out⟩
set_option maxHeartbeats 8000000 in
set_option maxRecDepth 100000 in
theorem impl_isTable.calls (A0 : Option Addr) (c0 : Nat) (l0 : List (List Int)) (r : Bool) (w : World) (hr0 : Kd.C (Kd.slice 3 (Kd.int .i64)) w A0 l0.length l0) (hc0 : l0.length ≤ c0) (h : impl_isTable.f l0 = some r) :
  Calls Try.prog 52 #[.slice A0 l0.length c0] w fun e w' => e = .returned (.bool r) ∧ Below w.heap.size w w' := by
 unfold impl_isTable.f at h
 cases e1 : inB 1 3 (l0.length : Int) with
 | false =>
  rw [e1, if_neg (by decide)] at h
  obtain rfl := Option.some.inj h
  have hin := Aside0.mk ((in_is (l0.length : Int) 1 3).trans (by rw [e1]))
  clear h hr0 hc0 e1
  go_enter Try.func52, Try.ntmps52
  go_wp2_with (go_at_call 76; (with_reducible refine (impl_in.calls _ 1 3 false _ hin.out).mono ?_); rintro e w' ⟨rfl, ⟨nd, rfl⟩⟩)
  go_ret
  exact ⟨rfl, pw_below_drewN ((Below.refl _ w).alloc (Nat.le_refl _) _) _⟩
 | true =>
  rw [e1, if_pos rfl] at h
  have hin := Aside0.mk ((in_is (l0.length : Int) 1 3).trans (by rw [e1]))
  have hl0 : 0 < l0.length := by unfold inB at e1; simp at e1; omega
  obtain ⟨A', c', ev', hl', hcr'⟩ := (rows_at hr0).2 0 hl0
  obtain ⟨ad, hA, hx⟩ := (rows_at hr0).1 0 hl0
  subst hA
  rw [ev', Addr.add_zero'] at hx
  have hlt : ad.block < w.heap.size := World.block_lt_of_cell? w _ hx
  have g0 : decide ((0 : Int) < (l0.length : Int)) = true := decide_eq_true (by omega)
  cases e2 : inB 1 3 ((l0.getD 0 []).length : Int) with
  | false =>
   rw [e2, if_neg (by decide)] at h
   obtain rfl := Option.some.inj h
   have hin2 := Aside0.mk ((in_is ((l0.getD 0 []).length : Int) 1 3).trans (by rw [e2]))
   clear h hr0 hc0 e1 e2
   generalize l0.getD 0 [] = y at hx hin2
   go_enter Try.func52, Try.ntmps52
   go_wp2_with (first
       | (go_at_call 76; (with_reducible refine (impl_in.calls (l0.length : Int) 1 3 true _ hin.out).mono ?_); rintro e w' ⟨rfl, ⟨nd, rfl⟩⟩)
       | (go_at_call 76; (with_reducible refine (impl_in.calls _ 1 3 false _ hin2.out).mono ?_); rintro e w' ⟨rfl, ⟨nd2, rfl⟩⟩))
   go_ret
   exact ⟨rfl, pw_below_drewN ((Below.refl _ w).alloc (Nat.le_refl _) _) _⟩
  | true =>
   rw [e2, if_pos rfl] at h
   obtain rfl := Option.some.inj h
   have hin2 := Aside0.mk ((in_is ((l0.getD 0 []).length : Int) 1 3).trans (by rw [e2]))
   have hcf := fun (W2 : World) (h2 : Below w.heap.size w W2) (hs : w.heap.size < W2.heap.size) (hb : W2.cell? ⟨w.heap.size, 0, none⟩ = some (.slice (some ad) l0.length c0)) =>
    containsFuncR 77 #[.pointer (some ⟨w.heap.size, 0, none⟩)] (enters_of Try.func77 (by kernel_rfl) rfl) _ _ (some ad) l0.length c0 W2 (table_answers w.heap.size (some ad) c0 l0 W2 hl0 hs hb (Kd.C_below hr0 h2)) hr0.2.1 (rows_at (Kd.C_below hr0 h2)).1
   have HCF := Aside0.mk hcf
   clear hcf hr0 hc0 e1 e2 h
   unfold anyBadRow
   generalize (List.range' 0 l0.length).any (fun j => badRow (l0.getD 0 []).length (l0.getD j [])) = r at HCF ⊢
   generalize l0.getD 0 [] = y at hx hin2
   go_enter Try.func52, Try.ntmps52
   go_wp2_with (first
       | (go_at_call 76; (with_reducible refine (impl_in.calls (l0.length : Int) 1 3 true _ hin.out).mono ?_); rintro e w' ⟨rfl, ⟨nd, rfl⟩⟩)
       | (go_at_call 76; (with_reducible refine (impl_in.calls _ 1 3 true _ hin2.out).mono ?_); rintro e w' ⟨rfl, ⟨nd2, rfl⟩⟩)
       | (go_at_call 37; refine (HCF.out _ (pw_below_drewN ((Below.refl _ w).alloc (Nat.le_refl _) _) _) (by simp) (by simp)).mono ?_; rintro e w2 ⟨rfl, h2⟩; have HB2 := Aside0.mk ((pw_below_drewN ((Below.refl _ w).alloc (Nat.le_refl _) _) _).trans (h2.mono (by simp))); clear h2))
   go_ret
   exact ⟨rfl, HB2.out⟩
def impl_IsGame.f (l0_0 : List (List Int)) (l0_1 : List (List Int)) : Option (Bool) := (impl_isTable.f l0_0).bind fun t323 => (if t323 = true then ((impl_isTable.f l0_1).bind fun t324 => (if t324 = true then (if (l0_0.length : Int) = (l0_1.length : Int) then (if 0 < (l0_0.length : Int) then (if 0 < (l0_1.length : Int) then (some (((rd_L1 l0_0 0).length : Int) == ((rd_L1 l0_1 0).length : Int))) else (none)) else (none)) else (some false)) else (some false))) else (some false))
def impl_IsGame.T1 : Bool × List (List Nat × List Nat) := (true, [([], []), ([0], [0]), ([1], [1]), ([2, 2], [2]), ([3], [3]), ([4, 3], [3, 4]), ([5, 3, 3], [3, 5]), ([3, 6], [3, 6]), ([7, 6], [7]), ([8], [8]), ([9, 8], [8, 9]), ([10, 8], [8, 10]), ([8], [8]), ([12, 8], [8, 12]), ([13, 8], [8, 13]), ([11, 14, 8], [8, 11, 14]), ([8, 15], [8, 15]), ([16, 8], [16]), ([17], [17]), ([18, 17], [17, 18]), ([19, 17], [17, 19]), ([20, 17], [17, 20]), ([21, 17], [17, 21]), ([17], [17]), ([23, 17], [17, 23]), ([24, 17], [17, 24]), ([25, 17], [17, 25]), ([26, 17], [17, 26]), ([22, 27, 17], [17, 22, 27]), ([17, 28], [17, 28]), ([29, 17, 0, 1, 2, 3, 4, 5, 6, 7, 8, 9, 10, 11, 12, 13, 14, 15, 16, 17, 18, 19, 20, 21, 22, 23, 24, 25, 26, 27, 28, 29], [29])])
def impl_IsGame.B1 : List Nat := [0, 1, 3, 7, 15, 31, 63, 127, 255, 511, 1023, 2047, 511, 4607, 12799, 32767, 65535, 131071, 262143, 524287, 1048575, 2097151, 4194303, 262143, 8650751, 25427967, 58982399, 126091263, 268435455, 536870911, 1073741823]
theorem impl_IsGame.tab1 : rtab .any (opsOf Try.f29 1) = impl_IsGame.T1 := by kernel_rfl
theorem impl_IsGame.bits1 : waitsOk impl_IsGame.T1.2 impl_IsGame.B1 = true := by kernel_rfl
set_option maxHeartbeats 8000000 in
set_option maxRecDepth 100000 in
theorem impl_IsGame.calls (A0_0 : Option Addr) (c0_0 : Nat) (l0_0 : List (List Int)) (A0_1 : Option Addr) (c0_1 : Nat) (l0_1 : List (List Int)) (r : Bool) (w : World) (hr0_0 : Kd.C (Kd.slice 3 (Kd.int .i64)) w A0_0 l0_0.length l0_0) (hc0_0 : l0_0.length ≤ c0_0) (hr0_1 : Kd.C (Kd.slice 3 (Kd.int .i64)) w A0_1 l0_1.length l0_1) (hc0_1 : l0_1.length ≤ c0_1) (h : impl_IsGame.f l0_0 l0_1 = some r) :
  Calls Try.prog 29 #[.agg #[.slice A0_0 l0_0.length c0_0, .slice A0_1 l0_1.length c0_1]] w fun e w' => e = .returned (.bool r) ∧ Below w.heap.size w w' := by
 have hu28 := Try.underlying28
 have HR0_0 := Aside0.mk hr0_0
 have HC0_0 := Aside0.mk hc0_0
 clear hr0_0 hc0_0
 have HR0_1 := Aside0.mk hr0_1
 have HC0_1 := Aside0.mk hc0_1
 clear hr0_1 hc0_1
 have HB := Aside0.mk (Below.refl w.heap.size w)
 have H : ((impl_isTable.f l0_0).bind fun t323 => (if t323 = true then ((impl_isTable.f l0_1).bind fun t324 => (if t324 = true then (if (l0_0.length : Int) = (l0_1.length : Int) then (if 0 < (l0_0.length : Int) then (if 0 < (l0_1.length : Int) then (some (((rd_L1 l0_0 0).length : Int) == ((rd_L1 l0_1 0).length : Int))) else (none)) else (none)) else (some false)) else (some false))) else (some false))) = some r := h
 clear h
 replace H := bindA H; obtain ⟨t323, A2, H⟩ := H
 by_cases c3 : t323 = true
 ·subst c3
  have H1 : ((impl_isTable.f l0_1).bind fun t324 => (if t324 = true then (if (l0_0.length : Int) = (l0_1.length : Int) then (if 0 < (l0_0.length : Int) then (if 0 < (l0_1.length : Int) then (some (((rd_L1 l0_0 0).length : Int) == ((rd_L1 l0_1 0).length : Int))) else (none)) else (none)) else (some false)) else (some false))) = some r := by rw [if_pos rfl] at H; first | exact H | (rw [if_pos trivial] at H; rw [if_pos rfl]; exact H)
  clear H
  have H := H1
  clear H1
  replace H := bindA H; obtain ⟨t324, A4, H⟩ := H
  by_cases c5 : t324 = true
  ·subst c5
   have H1 : (if (l0_0.length : Int) = (l0_1.length : Int) then (if 0 < (l0_0.length : Int) then (if 0 < (l0_1.length : Int) then (some (((rd_L1 l0_0 0).length : Int) == ((rd_L1 l0_1 0).length : Int))) else (none)) else (none)) else (some false)) = some r := by rw [if_pos rfl] at H; first | exact H | (rw [if_pos trivial] at H; rw [if_pos rfl]; exact H)
   clear H
   have H := H1
   clear H1
   by_cases c6 : (l0_0.length : Int) = (l0_1.length : Int)
   ·rw [if_pos c6] at H
    have c6b0 := eqb1 c6
    have c6b1 := eqb2 c6
    have c6b2 : (l0_0.length == l0_1.length) = true := by first | simpa using c6 | (simp at c6 ⊢; omega)
    clear c6
    replace H := ifP H; obtain ⟨c7, H⟩ := H
    have c7b0 := decide_eq_true c7
    have c7b1 : decide (0 < l0_0.length) = true := decide_eq_true (by omega)
    clear c7
    replace H := ifP H; obtain ⟨c8, H⟩ := H
    have c8b0 := decide_eq_true c8
    have c8b1 : decide (0 < l0_1.length) = true := decide_eq_true (by omega)
    clear c8
    obtain rfl := Option.some.inj H
    go_enter Try.func29, Try.ntmps29
    try go_wp2_with (first | ((with_reducible refine gate_dst (N := 1) rfl ?_); (try (refine gate_guard (by rfl) ?_; dsimp only)); refine box_event ?hg (N := 1) ?hd (cs := #[.slice A0_0 l0_0.length c0_0, .slice A0_1 l0_1.length c0_1]) (t := 28) ?hr ?_; (case hd => rfl); (case hg => rfl); (case hr => first | (go_simp; done) | (go_simp; rfl)); intro gb322 hg w9 hbox hb; have BK322 := am (hbox); have GW322 := am ((by rw [hg]; exact (below_size (mb HB.out)) : w.heap.size ≤ gb322)); have GE322 := am ((by rw [hg]; exact (below_size (mb HB.out)) : w.heap.size ≤ gb322)); replace HB := am (below_step (mb HB.out) hb); clear hb hbox hg))
    replace BK322 := am (blk_drew BK322.out)
    replace HB := am (below_drew1 HB.out)
    have p325 : 0 ≤ (0 : Int) := (by omega)
    have q325 : 0 < (l0_0.length : Int) := odE
    obtain ⟨ad325, A325_0, c325_0, e325, hx325_0, hl325_0, hi325_0⟩ := at_L1 HR0_0.out 0 p325 q325
    have hw325_0 := hx325_0
    (try rw [show ((0 : Int)).toNat = 0 from rfl] at hw325_0)
    (try rw [show 0 * 1 = 0 from rfl] at hw325_0)
    (try rw [Addr.add_zero'] at hw325_0)
    cases e325
    have qi325 : (0 < l0_0.length) = True := eq_true (by omega)
    (try rw [show ((0 : Int)).toNat = 0 from rfl] at hx325_0)
    (try rw [Addr.add_zero'] at hx325_0)
    replace hx325_0 := (HB.out.cell (World.block_lt_of_cell? w _ hx325_0)).trans hx325_0
    have HR325_0 := Aside0.mk hi325_0
    have HC325_0 := Aside0.mk hl325_0
    clear hi325_0 hl325_0
    replace p325 := eq_true p325
    replace q325 := eq_true q325
    have p326 : 0 ≤ (0 : Int) := (by omega)
    have q326 : 0 < (l0_1.length : Int) := odE
    obtain ⟨ad326, A326_0, c326_0, e326, hx326_0, hl326_0, hi326_0⟩ := at_L1 HR0_1.out 0 p326 q326
    have hw326_0 := hx326_0
    (try rw [show ((0 : Int)).toNat = 0 from rfl] at hw326_0)
    (try rw [show 0 * 1 = 0 from rfl] at hw326_0)
    (try rw [Addr.add_zero'] at hw326_0)
    cases e326
    have qi326 : (0 < l0_1.length) = True := eq_true (by omega)
    (try rw [show ((0 : Int)).toNat = 0 from rfl] at hx326_0)
    (try rw [Addr.add_zero'] at hx326_0)
    replace hx326_0 := (HB.out.cell (World.block_lt_of_cell? w _ hx326_0)).trans hx326_0
    have HR326_0 := Aside0.mk hi326_0
    have HC326_0 := Aside0.mk hl326_0
    clear hi326_0 hl326_0
    replace p326 := eq_true p326
    replace q326 := eq_true q326
    refine start_ (n := 31) (S := fun w' => w'.cell? ⟨gb322, 0, none⟩ = some (.slice (some ad325) l0_0.length c0_0) ∧ w'.cell? ⟨gb322, 1, none⟩ = some (.slice (some ad326) l0_1.length c0_1) ∧ w'.cell? ad325 = some (.slice A325_0 (rd_L1 l0_0 0).length c325_0) ∧ w'.cell? ad326 = some (.slice A326_0 (rd_L1 l0_1 0).length c326_0)) (ds := []) #[false, false, false, false, false, false, false, false, false, false, false, false, false, false, false, false, false, false, false, false, false, false, false, false, false, false, false, false, false, false, false] (by kernel_rfl) rfl rfl ⟨(blk_cell BK322.out 0).trans rfl, (blk_cell BK322.out 1).trans rfl, ((HB.out.cell (World.block_lt_of_cell? w _ hw325_0)).trans hw325_0), ((HB.out.cell (World.block_lt_of_cell? w _ hw326_0)).trans hw326_0)⟩ (fun hHeld => ?_); refine with_tabW impl_IsGame.tab1 impl_IsGame.bits1 (fun HT_ HW_ => ?_)
    generalize w9.drew = w10 at BK322 HB HR325_0 HR326_0 hx325_0 hx326_0 hHeld ⊢
    refine pY 0 3 HT_ ?_
    refine tY 1 4 HT_ HW_ hHeld ?_
    refine oY 2 5 HT_ (fun K hK => ?_)
    refine gY Try.func52 #[.slice (some ad325) l0_0.length c0_0] ?_
    with_reducible refine (impl_isTable.calls _ _ l0_0 true _ ?side1 ?side2 A2.out).mono ?_
    (case side1 => exact mvC (Kd.C_below HR0_0.out HB.out))
    (case side2 => exact HC0_0.out)
    rintro e w11 ⟨rfl, hb⟩
    refine ⟨_, rfl, ?_⟩
    replace BK322 := am (blk_below (mvK BK322.out) hb)
    replace HB := am (below_step (mb HB.out) hb)
    (try clear hb)
    (try clear hb2)
    (try clear hk)
    (try clear hi)
    refine hK.out _ _ ⟨(blk_cell BK322.out 0).trans rfl, (blk_cell BK322.out 1).trans rfl, ((HB.out.cell (World.block_lt_of_cell? w _ hw325_0)).trans hw325_0), ((HB.out.cell (World.block_lt_of_cell? w _ hw326_0)).trans hw326_0)⟩ (fun hHeld => ?_)
    clear hK K
    refine nY 5 ?_
    refine pY 3 6 HT_ ?_
    refine pY 4 7 HT_ ?_
    refine tY 5 8 HT_ HW_ hHeld ?_
    refine oY 6 9 HT_ (fun K hK => ?_)
    refine gY Try.func52 #[.slice (some ad326) l0_1.length c0_1] ?_
    with_reducible refine (impl_isTable.calls _ _ l0_1 true _ ?side1 ?side2 A4.out).mono ?_
    (case side1 => exact mvC (Kd.C_below HR0_1.out HB.out))
    (case side2 => exact HC0_1.out)
    rintro e w12 ⟨rfl, hb⟩
    refine ⟨_, rfl, ?_⟩
    replace BK322 := am (blk_below (mvK BK322.out) hb)
    replace HB := am (below_step (mb HB.out) hb)
    (try clear hb)
    (try clear hb2)
    (try clear hk)
    (try clear hi)
    refine hK.out _ _ ⟨(blk_cell BK322.out 0).trans rfl, (blk_cell BK322.out 1).trans rfl, ((HB.out.cell (World.block_lt_of_cell? w _ hw325_0)).trans hw325_0), ((HB.out.cell (World.block_lt_of_cell? w _ hw326_0)).trans hw326_0)⟩ (fun hHeld => ?_)
    clear hK K
    refine nY 9 ?_
    refine pY 7 10 HT_ ?_
    refine pY 8 11 HT_ ?_
    refine pY 9 12 HT_ ?_
    refine pY 12 15 HT_ ?_
    refine tY 10 13 HT_ HW_ hHeld ?_
    refine pY 11 14 HT_ ?_
    refine tY 13 16 HT_ HW_ hHeld ?_
    refine pY 14 17 HT_ ?_
    refine pY 15 18 HT_ ?_
    refine pY 16 19 HT_ ?_
    refine pY 17 20 HT_ ?_
    refine pY 18 21 HT_ ?_
    refine pY 23 26 HT_ ?_
    refine tY 19 22 HT_ HW_ hHeld ?_
    refine pY 20 23 HT_ ?_
    refine tY 21 24 HT_ HW_ hHeld ?_
    refine pY 22 25 HT_ ?_
    refine tY 24 27 HT_ HW_ hHeld ?_
    refine pY 25 28 HT_ ?_
    refine tY 26 29 HT_ HW_ hHeld ?_
    refine pY 27 30 HT_ ?_
    refine pY 28 31 HT_ ?_
    refine pY 29 32 HT_ ?_
    refine pY 30 2 HT_ ?_
    refine dY HT_ ?_
    try go_wp2
    go_ret
    exact ⟨eqE, mb HB.out⟩
   ·rw [if_neg c6] at H
    have c6b0 := neb1 c6
    have c6b1 := neb2 c6
    have c6b2 : (l0_0.length == l0_1.length) = false := by first | simpa using c6 | (simp at c6 ⊢; omega)
    obtain rfl := Option.some.inj H
    go_enter Try.func29, Try.ntmps29
    try go_wp2_with (first | ((with_reducible refine gate_dst (N := 1) rfl ?_); (try (refine gate_guard (by rfl) ?_; dsimp only)); refine box_event ?hg (N := 1) ?hd (cs := #[.slice A0_0 l0_0.length c0_0, .slice A0_1 l0_1.length c0_1]) (t := 28) ?hr ?_; (case hd => rfl); (case hg => rfl); (case hr => first | (go_simp; done) | (go_simp; rfl)); intro gb322 hg w13 hbox hb; have BK322 := am (hbox); have GW322 := am ((by rw [hg]; exact (below_size (mb HB.out)) : w.heap.size ≤ gb322)); have GE322 := am ((by rw [hg]; exact (below_size (mb HB.out)) : w.heap.size ≤ gb322)); replace HB := am (below_step (mb HB.out) hb); clear hb hbox hg))
    replace BK322 := am (blk_drew BK322.out)
    replace HB := am (below_drew1 HB.out)
    refine start_ (n := 31) (S := fun w' => w'.cell? ⟨gb322, 0, none⟩ = some (.slice A0_0 l0_0.length c0_0) ∧ w'.cell? ⟨gb322, 1, none⟩ = some (.slice A0_1 l0_1.length c0_1)) (ds := []) #[false, false, false, false, false, false, false, false, false, false, false, false, false, false, false, false, false, false, false, false, false, false, false, false, false, false, false, false, false, false, false] (by kernel_rfl) rfl rfl ⟨(blk_cell BK322.out 0).trans rfl, (blk_cell BK322.out 1).trans rfl⟩ (fun hHeld => ?_); refine with_tabW impl_IsGame.tab1 impl_IsGame.bits1 (fun HT_ HW_ => ?_)
    generalize w13.drew = w14 at BK322 HB hHeld ⊢
    refine pY 0 3 HT_ ?_
    refine tY 1 4 HT_ HW_ hHeld ?_
    refine oY 2 5 HT_ (fun K hK => ?_)
    refine gY Try.func52 #[.slice A0_0 l0_0.length c0_0] ?_
    with_reducible refine (impl_isTable.calls _ _ l0_0 true _ ?side1 ?side2 A2.out).mono ?_
    (case side1 => exact mvC (Kd.C_below HR0_0.out HB.out))
    (case side2 => exact HC0_0.out)
    rintro e w15 ⟨rfl, hb⟩
    refine ⟨_, rfl, ?_⟩
    replace BK322 := am (blk_below (mvK BK322.out) hb)
    replace HB := am (below_step (mb HB.out) hb)
    (try clear hb)
    (try clear hb2)
    (try clear hk)
    (try clear hi)
    refine hK.out _ _ ⟨(blk_cell BK322.out 0).trans rfl, (blk_cell BK322.out 1).trans rfl⟩ (fun hHeld => ?_)
    clear hK K
    refine nY 5 ?_
    refine pY 3 6 HT_ ?_
    refine pY 4 7 HT_ ?_
    refine tY 5 8 HT_ HW_ hHeld ?_
    refine oY 6 9 HT_ (fun K hK => ?_)
    refine gY Try.func52 #[.slice A0_1 l0_1.length c0_1] ?_
    with_reducible refine (impl_isTable.calls _ _ l0_1 true _ ?side1 ?side2 A4.out).mono ?_
    (case side1 => exact mvC (Kd.C_below HR0_1.out HB.out))
    (case side2 => exact HC0_1.out)
    rintro e w16 ⟨rfl, hb⟩
    refine ⟨_, rfl, ?_⟩
    replace BK322 := am (blk_below (mvK BK322.out) hb)
    replace HB := am (below_step (mb HB.out) hb)
    (try clear hb)
    (try clear hb2)
    (try clear hk)
    (try clear hi)
    refine hK.out _ _ ⟨(blk_cell BK322.out 0).trans rfl, (blk_cell BK322.out 1).trans rfl⟩ (fun hHeld => ?_)
    clear hK K
    refine nY 9 ?_
    refine pY 7 10 HT_ ?_
    refine pY 8 11 HT_ ?_
    refine pY 9 12 HT_ ?_
    refine pY 12 15 HT_ ?_
    refine tY 10 13 HT_ HW_ hHeld ?_
    refine pY 11 14 HT_ ?_
    refine tY 13 16 HT_ HW_ hHeld ?_
    refine pY 14 17 HT_ ?_
    refine pY 15 18 HT_ ?_
    refine pY 16 19 HT_ ?_
    refine pY 17 20 HT_ ?_
    refine uY 18 21 HT_ ?_; refine uY 19 22 HT_ ?_
    refine uY 20 23 HT_ ?_; refine uY 21 24 HT_ ?_
    refine uY 22 25 HT_ ?_; refine uY 23 26 HT_ ?_
    refine uY 24 27 HT_ ?_; refine uY 25 28 HT_ ?_
    refine uY 26 29 HT_ ?_; refine uY 27 30 HT_ ?_
    refine uY 28 31 HT_ ?_
    refine pY 29 32 HT_ ?_
    refine pY 30 2 HT_ ?_
    refine dY HT_ ?_
    try go_wp2
    go_ret
    exact ⟨eqE, mb HB.out⟩
  ·replace c5 := Bool.eq_false_iff.mpr c5
   subst c5
   replace H : (some false) = some r := by rw [if_neg (show ¬ (false = true) by decide)] at H; exact H
   obtain rfl := Option.some.inj H
   go_enter Try.func29, Try.ntmps29
   try go_wp2_with (first | ((with_reducible refine gate_dst (N := 1) rfl ?_); (try (refine gate_guard (by rfl) ?_; dsimp only)); refine box_event ?hg (N := 1) ?hd (cs := #[.slice A0_0 l0_0.length c0_0, .slice A0_1 l0_1.length c0_1]) (t := 28) ?hr ?_; (case hd => rfl); (case hg => rfl); (case hr => first | (go_simp; done) | (go_simp; rfl)); intro gb322 hg w17 hbox hb; have BK322 := am (hbox); have GW322 := am ((by rw [hg]; exact (below_size (mb HB.out)) : w.heap.size ≤ gb322)); have GE322 := am ((by rw [hg]; exact (below_size (mb HB.out)) : w.heap.size ≤ gb322)); replace HB := am (below_step (mb HB.out) hb); clear hb hbox hg))
   replace BK322 := am (blk_drew BK322.out)
   replace HB := am (below_drew1 HB.out)
   refine start_ (n := 31) (S := fun w' => w'.cell? ⟨gb322, 0, none⟩ = some (.slice A0_0 l0_0.length c0_0) ∧ w'.cell? ⟨gb322, 1, none⟩ = some (.slice A0_1 l0_1.length c0_1)) (ds := []) #[false, false, false, false, false, false, false, false, false, false, false, false, false, false, false, false, false, false, false, false, false, false, false, false, false, false, false, false, false, false, false] (by kernel_rfl) rfl rfl ⟨(blk_cell BK322.out 0).trans rfl, (blk_cell BK322.out 1).trans rfl⟩ (fun hHeld => ?_); refine with_tabW impl_IsGame.tab1 impl_IsGame.bits1 (fun HT_ HW_ => ?_)
   generalize w17.drew = w18 at BK322 HB hHeld ⊢
   refine pY 0 3 HT_ ?_
   refine tY 1 4 HT_ HW_ hHeld ?_
   refine oY 2 5 HT_ (fun K hK => ?_)
   refine gY Try.func52 #[.slice A0_0 l0_0.length c0_0] ?_
   with_reducible refine (impl_isTable.calls _ _ l0_0 true _ ?side1 ?side2 A2.out).mono ?_
   (case side1 => exact mvC (Kd.C_below HR0_0.out HB.out))
   (case side2 => exact HC0_0.out)
   rintro e w19 ⟨rfl, hb⟩
   refine ⟨_, rfl, ?_⟩
   replace BK322 := am (blk_below (mvK BK322.out) hb)
   replace HB := am (below_step (mb HB.out) hb)
   (try clear hb)
   (try clear hb2)
   (try clear hk)
   (try clear hi)
   refine hK.out _ _ ⟨(blk_cell BK322.out 0).trans rfl, (blk_cell BK322.out 1).trans rfl⟩ (fun hHeld => ?_)
   clear hK K
   refine nY 5 ?_
   refine pY 3 6 HT_ ?_
   refine pY 4 7 HT_ ?_
   refine tY 5 8 HT_ HW_ hHeld ?_
   refine oY 6 9 HT_ (fun K hK => ?_)
   refine gY Try.func52 #[.slice A0_1 l0_1.length c0_1] ?_
   with_reducible refine (impl_isTable.calls _ _ l0_1 false _ ?side1 ?side2 A4.out).mono ?_
   (case side1 => exact mvC (Kd.C_below HR0_1.out HB.out))
   (case side2 => exact HC0_1.out)
   rintro e w20 ⟨rfl, hb⟩
   refine ⟨_, rfl, ?_⟩
   replace BK322 := am (blk_below (mvK BK322.out) hb)
   replace HB := am (below_step (mb HB.out) hb)
   (try clear hb)
   (try clear hb2)
   (try clear hk)
   (try clear hi)
   refine hK.out _ _ ⟨(blk_cell BK322.out 0).trans rfl, (blk_cell BK322.out 1).trans rfl⟩ (fun hHeld => ?_)
   clear hK K
   refine nY 9 ?_
   refine pY 7 10 HT_ ?_
   refine pY 8 11 HT_ ?_
   refine uY 9 12 HT_ ?_; refine uY 10 13 HT_ ?_
   refine uY 11 14 HT_ ?_; refine uY 12 15 HT_ ?_
   refine uY 13 16 HT_ ?_; refine uY 14 17 HT_ ?_
   refine uY 15 18 HT_ ?_
   refine pY 16 19 HT_ ?_
   refine pY 17 20 HT_ ?_
   refine uY 18 21 HT_ ?_; refine uY 19 22 HT_ ?_
   refine uY 20 23 HT_ ?_; refine uY 21 24 HT_ ?_
   refine uY 22 25 HT_ ?_; refine uY 23 26 HT_ ?_
   refine uY 24 27 HT_ ?_; refine uY 25 28 HT_ ?_
   refine uY 26 29 HT_ ?_; refine uY 27 30 HT_ ?_
   refine uY 28 31 HT_ ?_
   refine pY 29 32 HT_ ?_
   refine pY 30 2 HT_ ?_
   refine dY HT_ ?_
   try go_wp2
   go_ret
   exact ⟨eqE, mb HB.out⟩
 ·replace c3 := Bool.eq_false_iff.mpr c3
  subst c3
  replace H : (some false) = some r := by rw [if_neg (show ¬ (false = true) by decide)] at H; exact H
  obtain rfl := Option.some.inj H
  go_enter Try.func29, Try.ntmps29
  try go_wp2_with (first | ((with_reducible refine gate_dst (N := 1) rfl ?_); (try (refine gate_guard (by rfl) ?_; dsimp only)); refine box_event ?hg (N := 1) ?hd (cs := #[.slice A0_0 l0_0.length c0_0, .slice A0_1 l0_1.length c0_1]) (t := 28) ?hr ?_; (case hd => rfl); (case hg => rfl); (case hr => first | (go_simp; done) | (go_simp; rfl)); intro gb322 hg w21 hbox hb; have BK322 := am (hbox); have GW322 := am ((by rw [hg]; exact (below_size (mb HB.out)) : w.heap.size ≤ gb322)); have GE322 := am ((by rw [hg]; exact (below_size (mb HB.out)) : w.heap.size ≤ gb322)); replace HB := am (below_step (mb HB.out) hb); clear hb hbox hg))
  replace BK322 := am (blk_drew BK322.out)
  replace HB := am (below_drew1 HB.out)
  refine start_ (n := 31) (S := fun w' => w'.cell? ⟨gb322, 0, none⟩ = some (.slice A0_0 l0_0.length c0_0) ∧ w'.cell? ⟨gb322, 1, none⟩ = some (.slice A0_1 l0_1.length c0_1)) (ds := []) #[false, false, false, false, false, false, false, false, false, false, false, false, false, false, false, false, false, false, false, false, false, false, false, false, false, false, false, false, false, false, false] (by kernel_rfl) rfl rfl ⟨(blk_cell BK322.out 0).trans rfl, (blk_cell BK322.out 1).trans rfl⟩ (fun hHeld => ?_); refine with_tabW impl_IsGame.tab1 impl_IsGame.bits1 (fun HT_ HW_ => ?_)
  generalize w21.drew = w22 at BK322 HB hHeld ⊢
  refine pY 0 3 HT_ ?_
  refine tY 1 4 HT_ HW_ hHeld ?_
  refine oY 2 5 HT_ (fun K hK => ?_)
  refine gY Try.func52 #[.slice A0_0 l0_0.length c0_0] ?_
  with_reducible refine (impl_isTable.calls _ _ l0_0 false _ ?side1 ?side2 A2.out).mono ?_
  (case side1 => exact mvC (Kd.C_below HR0_0.out HB.out))
  (case side2 => exact HC0_0.out)
  rintro e w23 ⟨rfl, hb⟩
  refine ⟨_, rfl, ?_⟩
  replace BK322 := am (blk_below (mvK BK322.out) hb)
  replace HB := am (below_step (mb HB.out) hb)
  (try clear hb)
  (try clear hb2)
  (try clear hk)
  (try clear hi)
  refine hK.out _ _ ⟨(blk_cell BK322.out 0).trans rfl, (blk_cell BK322.out 1).trans rfl⟩ (fun hHeld => ?_)
  clear hK K
  refine nY 5 ?_
  refine pY 3 6 HT_ ?_
  refine uY 4 7 HT_ ?_; refine uY 5 8 HT_ ?_
  refine uY 6 9 HT_ ?_
  refine pY 7 10 HT_ ?_
  refine pY 8 11 HT_ ?_
  refine uY 9 12 HT_ ?_; refine uY 10 13 HT_ ?_
  refine uY 11 14 HT_ ?_; refine uY 12 15 HT_ ?_
  refine uY 13 16 HT_ ?_; refine uY 14 17 HT_ ?_
  refine uY 15 18 HT_ ?_
  refine pY 16 19 HT_ ?_
  refine pY 17 20 HT_ ?_
  refine uY 18 21 HT_ ?_; refine uY 19 22 HT_ ?_
  refine uY 20 23 HT_ ?_; refine uY 21 24 HT_ ?_
  refine uY 22 25 HT_ ?_; refine uY 23 26 HT_ ?_
  refine uY 24 27 HT_ ?_; refine uY 25 28 HT_ ?_
  refine uY 26 29 HT_ ?_; refine uY 27 30 HT_ ?_
  refine uY 28 31 HT_ ?_
  refine pY 29 32 HT_ ?_
  refine pY 30 2 HT_ ?_
  refine dY HT_ ?_
  try go_wp2
  go_ret
  exact ⟨eqE, mb HB.out⟩
end Go.Proofs.Ytggiicplcglalaa.All
end
