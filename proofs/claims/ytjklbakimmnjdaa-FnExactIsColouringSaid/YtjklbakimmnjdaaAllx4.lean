-- Written by wip/tools/xprint.py (a program of this claim's session, over the kit's print). Lean checks it.
import Derived.Test.YtjklbakimmnjdaaAllx0
import Derived.Test.YtjklbakimmnjdaaAllx1
import Derived.Test.YtjklbakimmnjdaaAllx2
namespace Go.Proofs.Ytjklbakimmnjdaa.All
open Go.RowKit Go.Proofs.YtjklbakimmnjdaaW.PrintWords Go.Proofs.YtjklbakimmnjdaaW.PrintLast Go.Proofs.YtjklbakimmnjdaaW.PrintMore
attribute [local go_sem] max2_int min2_int max_two min_two max_three min_three max_four min_four   -- for this text's walks alone
set_option linter.unusedVariables false
set_option linter.unusedSimpArgs false

/-! ### spec_knChoose: function 46 -/
def spec_knChoose.l0 : Nat → Int → Int → Int → Int → Option (Int)
  | 0, _, _, _, _ => none
  | k + 1, x0, x1, x5, x6 => if x6 ≤ x1 then (if x6 = 0 then (none) else (spec_knChoose.l0 k x0 x1 (wrap64 (Int.tdiv (wrap64 (x5 * (wrap64 ((wrap64 (x0 - x1)) + x6)))) x6)) (wrap64 (x6 + 1)))) else (some x5)
def spec_knChoose.f (k : Nat) (a0 : Int) (a1 : Int) : Option (Int) := if a1 > a0 then (some 0) else (spec_knChoose.l0 k a0 a1 1 1)
theorem spec_knChoose.mono_l : ∀ k, (∀ y0 y1 y2 y3, LeO (spec_knChoose.l0 k y0 y1 y2 y3) (spec_knChoose.l0 (k + 1) y0 y1 y2 y3))
  | 0 => fun _ _ _ _ r h => by simp [spec_knChoose.l0] at h
  | k + 1 => by
    have ih0 := spec_knChoose.mono_l k
    · intro y0 y1 y2 y3
      unfold spec_knChoose.l0
      repeat' first
      | (with_reducible exact ih0 _ _ _ _)
      | (with_reducible exact LeO.refl _)
      | (with_reducible exact LeO.none _)
      | (with_reducible refine LeO.ite ?_ ?_)
      | (with_reducible refine LeO.bind ?_ (fun _ => ?_))
      | exact ih0 _ _ _ _
      | exact LeO.none _
      | refine LeO.ite ?_ ?_
      | refine LeO.bind ?_ (fun _ => ?_)
theorem spec_knChoose.mono : ∀ a0 a1 k, LeO (spec_knChoose.f k a0 a1) (spec_knChoose.f (k + 1) a0 a1) := by
  intro a0 a1 k
  have ih0 := spec_knChoose.mono_l k
  unfold spec_knChoose.f
  repeat' first
      | (with_reducible exact ih0 _ _ _ _)
      | (with_reducible exact LeO.refl _)
      | (with_reducible exact LeO.none _)
      | (with_reducible refine LeO.ite ?_ ?_)
      | (with_reducible refine LeO.bind ?_ (fun _ => ?_))
      | exact ih0 _ _ _ _
      | exact LeO.none _
      | refine LeO.ite ?_ ?_
      | refine LeO.bind ?_ (fun _ => ?_)
set_option maxHeartbeats 8000000 in
set_option maxRecDepth 100000 in
theorem spec_knChoose.calls (k : Nat) (a0 : Int) (a1 : Int) (r : Int) (w : World) (h : spec_knChoose.f k a0 a1 = some r) :
    Calls Try.prog 46 #[.int .i64 a0, .int .i64 a1] w fun e w' => e = .returned (.int .i64 r) ∧ Drawn0 w w' := by
  have H : (if a1 > a0 then (some 0) else (spec_knChoose.l0 k a0 a1 1 1)) = some r := h
  clear h
  by_cases c3 : a1 > a0
  · rw [if_pos c3] at H
    have c3b0 : decide (a0 < a1) = true := decide_eq_true c3
    clear c3
    obtain rfl := Option.some.inj H
    go_enter Try.func46, Try.ntmps46
    go_wp2
    go_ret
    exact ⟨by first | rfl | (simp; done) | (simp [*]; done), by repeat (first | exact Drawn0.refl _ | apply Drawn0.step)⟩
  · rw [if_neg c3] at H
    have c3b0 : decide (a0 < a1) = false := decide_eq_false c3
    clear c3
    have H' := Aside0.mk H
    clear H
    go_enter Try.func46, Try.ntmps46
    go_wp2
    go_loopg [5, 6] k (fun kq v5 v6 w' => ∃ (x5_1 : Int) (x6_1 : Int), v5 = .int .i64 x5_1 ∧ v6 = .int .i64 x6_1 ∧ Aside0 (spec_knChoose.l0 kq a0 a1 x5_1 x6_1 = some r) ∧ Aside0 (kq ≤ k) ∧ Drawn0 w w')
    case atStart => exact ⟨(1), (1), (by first | rfl | (simp; done) | (simp [*]; done)), (by first | rfl | (simp; done) | (simp [*]; done)), H', ⟨Nat.le_refl _⟩, by repeat (first | exact Drawn0.refl _ | apply Drawn0.step)⟩
    case round =>
      clear H'
      try clear p2
      try clear c3
      try clear c3b0
      obtain ⟨x5_1, x6_1, rfl, rfl, HA, HK1, ⟨m1, rfl⟩⟩ := hrel
      cases gk with
      | zero => exact absurd HA.out (by simp [spec_knChoose.l0])
      | succ k1 =>
        have H := HA.out
        clear HA
        simp only [spec_knChoose.l0] at H
        by_cases c4 : x6_1 ≤ a1
        · rw [if_pos c4] at H
          have c4b0 : decide (x6_1 ≤ a1) = true := decide_eq_true c4
          clear c4
          by_cases c5 : x6_1 = 0
          · rw [if_pos c5] at H
            exact absurd H (by simp)
          · rw [if_neg c5] at H
            have c5b0 : (x6_1 == 0) = false := beq_eq_false_iff_ne.mpr c5
            have c5b1 : (x6_1 != 0) = true := bne_iff_ne.mpr c5
            have H' := Aside0.mk H
            clear H
            go_wp2
            go_roundg k1
            case measure => have := HK1.out; omega
            case rel => exact ⟨(wrap64 (Int.tdiv (wrap64 (x5_1 * (wrap64 ((wrap64 (a0 - a1)) + x6_1)))) x6_1)), (wrap64 (x6_1 + 1)), (by first | rfl | (simp; done) | (simp [*]; done)), (by first | rfl | (simp; done) | (simp [*]; done)), H', ⟨by have := HK1.out; omega⟩, by repeat (first | exact Drawn0.refl _ | apply Drawn0.step)⟩
        · rw [if_neg c4] at H
          have c4b0 : decide (x6_1 ≤ a1) = false := decide_eq_false c4
          clear c4
          obtain rfl := Option.some.inj H
          go_wp2
          go_ret
          exact ⟨by first | rfl | (simp; done) | (simp [*]; done), by repeat (first | exact Drawn0.refl _ | apply Drawn0.step)⟩

/-! ### spec_CountStable: function 29 -/
def spec_CountStable.f (k : Nat) (a0 : Int) (a1 : Int) : Option (Int × Bool) := (spec_knGiven.f a0 a1).bind fun t147 => (if t147 = true then (if a1 = 1 then (some (a0, true)) else (if (wrap64 (2 * a1)) > a0 then (some (0, true)) else ((spec_knChoose.f k (wrap64 (a0 - a1)) a1).bind fun t148 => (if (wrap64 (a0 - a1)) = 0 then (none) else (some (wrap64 (Int.tdiv (wrap64 (a0 * t148)) (wrap64 (a0 - a1))), true)))))) else (some (0, false)))
theorem spec_CountStable.mono : ∀ a0 a1 k, LeO (spec_CountStable.f k a0 a1) (spec_CountStable.f (k + 1) a0 a1) := by
  intro a0 a1 k
  unfold spec_CountStable.f
  repeat' first
      | (with_reducible exact spec_knChoose.mono _ _ _)
      | (with_reducible exact LeO.refl _)
      | (with_reducible exact LeO.none _)
      | (with_reducible refine LeO.ite ?_ ?_)
      | (with_reducible refine LeO.bind ?_ (fun _ => ?_))
      | exact spec_knChoose.mono _ _ _
      | exact LeO.none _
      | refine LeO.ite ?_ ?_
      | refine LeO.bind ?_ (fun _ => ?_)
set_option maxHeartbeats 8000000 in
set_option maxRecDepth 100000 in
theorem spec_CountStable.calls (k : Nat) (a0 : Int) (a1 : Int) (r1 : Int) (r2 : Bool) (w : World) (h : spec_CountStable.f k a0 a1 = some (r1, r2)) :
    Calls Try.prog 29 #[.int .i64 a0, .int .i64 a1] w fun e w' => e = .returned (.tuple #[.int .i64 r1, .bool r2]) ∧ Drawn0 w w' := by
  have H : ((spec_knGiven.f a0 a1).bind fun t147 => (if t147 = true then (if a1 = 1 then (some (a0, true)) else (if (wrap64 (2 * a1)) > a0 then (some (0, true)) else ((spec_knChoose.f k (wrap64 (a0 - a1)) a1).bind fun t148 => (if (wrap64 (a0 - a1)) = 0 then (none) else (some (wrap64 (Int.tdiv (wrap64 (a0 * t148)) (wrap64 (a0 - a1))), true)))))) else (some (0, false)))) = some (r1, r2) := h
  clear h
  replace H := Option.bind_eq_some_iff.mp H
  obtain ⟨t147, A30, H⟩ := H
  replace H : (if t147 = true then (if a1 = 1 then (some (a0, true)) else (if (wrap64 (2 * a1)) > a0 then (some (0, true)) else ((spec_knChoose.f k (wrap64 (a0 - a1)) a1).bind fun t148 => (if (wrap64 (a0 - a1)) = 0 then (none) else (some (wrap64 (Int.tdiv (wrap64 (a0 * t148)) (wrap64 (a0 - a1))), true)))))) else (some (0, false))) = some (r1, r2) := H
  have A3 := Aside0.mk A30
  clear A30
  by_cases c4 : t147 = true
  · subst c4
    have H1 : (if a1 = 1 then (some (a0, true)) else (if (wrap64 (2 * a1)) > a0 then (some (0, true)) else ((spec_knChoose.f k (wrap64 (a0 - a1)) a1).bind fun t148 => (if (wrap64 (a0 - a1)) = 0 then (none) else (some (wrap64 (Int.tdiv (wrap64 (a0 * t148)) (wrap64 (a0 - a1))), true)))))) = some (r1, r2) := by rw [if_pos rfl] at H; exact H
    clear H
    have H := H1
    clear H1
    by_cases c5 : a1 = 1
    · rw [if_pos c5] at H
      have c5b0 : (a1 == 1) = true := beq_iff_eq.mpr c5
      have c5b1 : (a1 != 1) = false := bne_eq_false_iff_eq.mpr c5
      clear c5
      simp only [Option.some.injEq, Prod.mk.injEq] at H
      obtain ⟨rfl, rfl⟩ := H
      go_enter Try.func29, Try.ntmps29
      go_wp2_with (first | ((with_reducible refine gate_callee (f := 42) rfl ?_); refine goesL_ (some 8) rfl rfl Try.func42 (by kernel_rfl) rfl #[.int .i64 a0, .int .i64 a1] rfl (by (try simp only [List.map_toArray, List.map_cons, List.map_nil]); first | done | rfl | (simp only [List.length_drop, List.length_take]; rfl)) ?_; (with_reducible refine (spec_knGiven.calls a0 a1 true _ A3.out).mono ?_); rintro e w' ⟨rfl, ⟨nd, rfl⟩⟩; refine ⟨_, rfl, ?_⟩))
      go_ret2
      exact ⟨by first | rfl | (simp; done) | (simp [*]; done), by repeat (first | exact Drawn0.refl _ | apply Drawn0.step)⟩
    · rw [if_neg c5] at H
      have c5b0 : (a1 == 1) = false := beq_eq_false_iff_ne.mpr c5
      have c5b1 : (a1 != 1) = true := bne_iff_ne.mpr c5
      by_cases c6 : (wrap64 (2 * a1)) > a0
      · rw [if_pos c6] at H
        have c6b0 : decide (a0 < (wrap64 (2 * a1))) = true := decide_eq_true c6
        clear c6
        simp only [Option.some.injEq, Prod.mk.injEq] at H
        obtain ⟨rfl, rfl⟩ := H
        go_enter Try.func29, Try.ntmps29
        go_wp2_with (first | ((with_reducible refine gate_callee (f := 42) rfl ?_); refine goesL_ (some 8) rfl rfl Try.func42 (by kernel_rfl) rfl #[.int .i64 a0, .int .i64 a1] rfl (by (try simp only [List.map_toArray, List.map_cons, List.map_nil]); first | done | rfl | (simp only [List.length_drop, List.length_take]; rfl)) ?_; (with_reducible refine (spec_knGiven.calls a0 a1 true _ A3.out).mono ?_); rintro e w' ⟨rfl, ⟨nd, rfl⟩⟩; refine ⟨_, rfl, ?_⟩))
        go_ret2
        exact ⟨by first | rfl | (simp; done) | (simp [*]; done), by repeat (first | exact Drawn0.refl _ | apply Drawn0.step)⟩
      · rw [if_neg c6] at H
        have c6b0 : decide (a0 < (wrap64 (2 * a1))) = false := decide_eq_false c6
        clear c6
        replace H := Option.bind_eq_some_iff.mp H
        obtain ⟨t148, A70, H⟩ := H
        replace H : (if (wrap64 (a0 - a1)) = 0 then (none) else (some (wrap64 (Int.tdiv (wrap64 (a0 * t148)) (wrap64 (a0 - a1))), true))) = some (r1, r2) := H
        have A7 := Aside0.mk A70
        clear A70
        by_cases c8 : (wrap64 (a0 - a1)) = 0
        · rw [if_pos c8] at H
          exact absurd H (by simp)
        · rw [if_neg c8] at H
          have c8b0 : ((wrap64 (a0 - a1)) == 0) = false := beq_eq_false_iff_ne.mpr c8
          have c8b1 : ((wrap64 (a0 - a1)) != 0) = true := bne_iff_ne.mpr c8
          simp only [Option.some.injEq, Prod.mk.injEq] at H
          obtain ⟨rfl, rfl⟩ := H
          go_enter Try.func29, Try.ntmps29
          go_wp2_with (first | ((with_reducible refine gate_callee (f := 42) rfl ?_); refine goesL_ (some 8) rfl rfl Try.func42 (by kernel_rfl) rfl #[.int .i64 a0, .int .i64 a1] rfl (by (try simp only [List.map_toArray, List.map_cons, List.map_nil]); first | done | rfl | (simp only [List.length_drop, List.length_take]; rfl)) ?_; (with_reducible refine (spec_knGiven.calls a0 a1 true _ A3.out).mono ?_); rintro e w' ⟨rfl, ⟨nd, rfl⟩⟩; refine ⟨_, rfl, ?_⟩) | ((with_reducible refine gate_callee (f := 46) rfl ?_); refine goesL_ (some 22) rfl rfl Try.func46 (by kernel_rfl) rfl #[.int .i64 (wrap64 (a0 - a1)), .int .i64 a1] rfl (by (try simp only [List.map_toArray, List.map_cons, List.map_nil]); first | done | rfl | (simp only [List.length_drop, List.length_take]; rfl)) ?_; (with_reducible refine (spec_knChoose.calls k (wrap64 (a0 - a1)) a1 t148 _ A7.out).mono ?_); rintro e w' ⟨rfl, ⟨nd, rfl⟩⟩; refine ⟨_, rfl, ?_⟩))
          go_ret2
          exact ⟨by first | rfl | (simp; done) | (simp [*]; done), by repeat (first | exact Drawn0.refl _ | apply Drawn0.step)⟩
  · replace c4 := Bool.eq_false_iff.mpr c4
    subst c4
    have H1 : (some (0, false)) = some (r1, r2) := by rw [if_neg (show ¬ (false = true) by decide)] at H; exact H
    clear H
    have H := H1
    clear H1
    simp only [Option.some.injEq, Prod.mk.injEq] at H
    obtain ⟨rfl, rfl⟩ := H
    go_enter Try.func29, Try.ntmps29
    go_wp2_with (first | ((with_reducible refine gate_callee (f := 42) rfl ?_); refine goesL_ (some 8) rfl rfl Try.func42 (by kernel_rfl) rfl #[.int .i64 a0, .int .i64 a1] rfl (by (try simp only [List.map_toArray, List.map_cons, List.map_nil]); first | done | rfl | (simp only [List.length_drop, List.length_take]; rfl)) ?_; (with_reducible refine (spec_knGiven.calls a0 a1 false _ A3.out).mono ?_); rintro e w' ⟨rfl, ⟨nd, rfl⟩⟩; refine ⟨_, rfl, ?_⟩))
    go_ret2
    exact ⟨by first | rfl | (simp; done) | (simp [*]; done), by repeat (first | exact Drawn0.refl _ | apply Drawn0.step)⟩

/-! ### slices_IndexFunc_int_int: function 63 (by hand) -/

set_option maxHeartbeats 4000000 in
set_option maxRecDepth 100000 in
theorem indexFuncI (g : Nat) (lb : Array Value) (eg : ∀ args w, (callFunc g args).run Try.prog w = .ok (.enter g args) w) (v : Nat → Value) (q : Nat → Bool) (A0 : Option Addr) (n c : Nat) (w : World)
    (hp : AnswersAt g lb v q n w) (hn : n ≤ 9223372036854775807) (hc : CellsAt w A0 v n) :
    Calls Try.prog 63 #[.slice A0 n c, .func (.func g) #[] lb] w fun e w' => e = .returned (.int .i64 (firstAt q n 0)) ∧ Below w.heap.size w w' := by
  have hrow : ∀ (W : World), Below w.heap.size w W → CellsAt W A0 v n := fun W hW j hj => by
    obtain ⟨ad, e, hx⟩ := hc j hj
    exact ⟨ad, e, pw_cell_below hW hx⟩
  have HP := Aside0.mk hp
  have HR := Aside0.mk hrow
  have HN := Aside0.mk hn
  clear hc hp hrow hn
  go_enter Try.func63, Try.ntmps63
  go_wp2
  go_loopg [5, 8] n (fun gg _ s8 wr => ∃ kk : Nat, kk ≤ n ∧ n - kk ≤ gg ∧ s8 = .int .i64 kk ∧ Aside0 (Below w.heap.size w wr) ∧ Aside0 (∀ j, j < kk → q j = false))
  case atStart => exact ⟨0, Nat.zero_le _, by omega, rfl, ⟨Below.refl _ w⟩, ⟨fun j hj => absurd hj (Nat.not_lt_zero _)⟩⟩
  case round =>
    obtain ⟨kk, hkk, hg, rfl, BW, A⟩ := hrel
    have hn' := HN.out
    by_cases hlt : kk < n
    · have hltz : (kk : Int) < (n : Int) := by omega
      obtain ⟨ad, ea, l2⟩ := HR.out wr BW.out kk hlt
      cases ea
      have hcall := HP.out kk hlt wr BW.out
      generalize hy : v kk = y at l2 hcall
      clear hy
      cases hq : q kk with
      | true =>
        rw [hq] at hcall
        have HQ := Aside0.mk hq
        clear hq
        go_wp2_with (go_at_fn g; refine hcall.mono ?_; rintro e w' ⟨rfl, hb'⟩)
        go_ret
        refine ⟨?_, hb'⟩
        rw [firstAt_hit q kk HQ.out n 0 (Nat.zero_le _) (by omega) (fun m _ h => A.out m h)]
        rfl
      | false =>
        rw [hq] at hcall
        have HQ := Aside0.mk hq
        clear hq
        go_wp2_with (go_at_fn g; refine hcall.mono ?_; rintro e w' ⟨rfl, hb'⟩)
        go_roundg (n - (kk + 1))
        case measure => omega
        case rel =>
          refine ⟨kk + 1, by omega, by omega, by go_num, ⟨hb'⟩, ⟨fun j hj => ?_⟩⟩
          by_cases e : j = kk
          · subst e; exact HQ.out
          · exact A.out j (by omega)
    · have hltz : ¬ (kk : Int) < (n : Int) := by omega
      have : kk = n := by omega
      subst this
      go_wp2
      go_ret
      refine ⟨?_, BW.out⟩
      rw [firstAt_miss q kk 0 (fun m _ h => A.out m (by omega))]
      rfl

/-! ### slices_DeleteFunc_int_int: function 52 (by hand) -/
def delRen : Go.Shelf.Ren := ⟨fun | 6 => 63 | 10 => 52 | n => n, fun | 0 => 0 | 3 => 3 | 4 => 4 | 22 => 27 | 23 => 3 | 25 => 40 | n => n, fun | n => n⟩
theorem delLay : SlLaysH.n10 Try.prog delRen := {
  mixed := by kernel_rfl
  f6 := ⟨Try.f63.name, by decide, Try.func63.trans (congrArg some (by kernel_rfl))⟩
  f10 := ⟨Try.f52.name, by decide, Try.func52.trans (congrArg some (by kernel_rfl))⟩
  t0 := Try.underlying0
  a0 := Try.isAgg0
  z0 := Try.sizeOf0
  v0 := Try.zeroValue0
  t3 := Try.underlying3
  a3 := Try.isAgg3
  z3 := Try.sizeOf3
  v3 := Try.zeroValue3
  t4 := Try.underlying4
  a4 := Try.isAgg4
  z4 := Try.sizeOf4
  v4 := Try.zeroValue4
  t22 := Try.underlying27
  a22 := Try.isAgg27
  z22 := Try.sizeOf27
  v22 := Try.zeroValue27
  a23 := Try.isAgg3
  z23 := Try.sizeOf3
  t25 := Try.underlying40
  a25 := Try.isAgg40
  z25 := Try.sizeOf40
  v25 := Try.zeroValue40 }
/-- What a predicate that only reads answers, in whatever world differs from w in the row's own block and in what is new alone. -/
def AsksNear (g : Nat) (lb : Array Value) (p : Int → Bool) (w : World) (v : Value) : Prop :=
  ∀ (W : World) (x : Int), (∀ i, i < w.heap.size → some i ≠ v.ownBlock → W.heap[i]? = w.heap[i]?) → Go.Proofs.FnGives Try.prog g lb #[.int .i64 x] (.bool (p x)) W
open Go.Sort in
/-- A row that is written anew in place, and cut: it is owned still. -/
theorem ownsRow_putI {w : World} {base gb cap q : Nat} {e : TypeId} {cur : Array Value} {n : Nat} (fl : List Int) (m : Nat) (hbase : base ≤ gb) (hb : w.heap[gb]? = some (.cells cur e (0, 0))) (h1 : n ≤ cap) (h2 : cap ≤ maxLen) (h3 : cur.size = cap * 1) (hn : fl.length + m = n) :
    (putRow (Value.int .i64) (Sort.ahead w q) gb 0 (fl ++ List.replicate m 0).toArray).ownsRow base e 1 (.slice (some ⟨gb, 0, none⟩) fl.length cap) fl.length (encs (Value.int .i64) fl) := by
  have hl : (fl ++ List.replicate m (0 : Int)).length = n := by simp [hn]
  refine ⟨by simp [encs], .inr ⟨gb, cap, putCells (Value.int .i64) 0 (fl ++ List.replicate m 0).toArray cur, rfl, hbase, ?_, by omega, h2, by simp [putCells, h3], ?_⟩⟩
  · have := heap_sortedI (n := q) (os := #[]) (fl ++ List.replicate m (0 : Int)).toArray hb
    rwa [grow_empty] at this
  · have h4 := take_putCellsI cur (fl ++ List.replicate m (0 : Int)) (by rw [hl]; omega)
    have h5 := congrArg (List.take fl.length) h4
    rw [List.take_take, Nat.min_eq_left (by simp)] at h5
    rw [Nat.mul_one, h5, List.map_append, List.take_left' (by simp)]
    rfl
open Go.Sort in
theorem below_putI {w0 w : World} {base gb q : Nat} (d : Array Int) (hB : Below base w0 w) (hbw : base ≤ w.heap.size) (hbase : base ≤ gb) : Below base w0 (putRow (Value.int .i64) (Sort.ahead w q) gb 0 d) := by
  have := grownBy_sortedI (w := w) (g := gb) (n := q) (os := #[]) d
  rw [grow_empty] at this
  exact hB.grown this hbw (fun k hk => by cases hk; exact hbase)
set_option maxHeartbeats 4000000 in
theorem deleteFuncI (g : Nat) (lb : Array Value) (eg : ∀ args w, (callFunc g args).run Try.prog w = .ok (.enter g args) w) (p : Int → Bool) (base : Nat) (ok : Nat → Prop) (v : Value) (l : List Int) (w0 w : World)
    (ho : Kd.R (Kd.int .i64) 3 w base ok v l) (hp : AsksNear g lb p w v) (hB : Below base w0 w) (hbw : base ≤ w.heap.size) :
    Calls Try.prog 52 #[v, .func (.func g) #[] lb] w fun e w' => ∃ v' : Value, e = .returned v' ∧ Kd.R (Kd.int .i64) 3 w' base ok v' (l.filter fun x => !p x) ∧ Below base w0 w' := by
  have hown := Kd.own_of_R ho
  rcases hown.2 with ⟨rfl, hn⟩ | ⟨gb, cap, cur, rfl, hbase, hheap, h1, h2, h3, h4⟩
  · obtain rfl : l = [] := List.eq_nil_of_length_eq_zero hn
    have hix := indexFuncI g lb eg (fun _ => .bool false) (fun _ => false) none 0 0 w (fun j hj => absurd hj (Nat.not_lt_zero _)) (by omega) (fun j hj => absurd hj (Nat.not_lt_zero _))
    have HO := Aside0.mk ho
    have HB := Aside0.mk hB
    have HW := Aside0.mk hbw
    clear ho hB hown hp hn hbw
    go_enter Try.func52, Try.ntmps52
    go_wp2_with (go_at_call 63; refine hix.mono ?_; rintro e w1 ⟨rfl, hb⟩; have HB1 := Aside0.mk (HB.out.trans (hb.mono HW.out)); clear hb)
    go_ret
    exact ⟨_, rfl, Kd.R_nil _ _ _ _ _, HB1.out⟩
  · have hlt : gb < w.heap.size := (Array.getElem?_eq_some_iff.1 hheap).1
    have hH : Go.Sort.Holds (Value.int .i64) w gb 0 l.toArray := holds_of_blockI hheap (by rw [Nat.mul_one] at h4; rw [h4]; rfl)
    have hcon := AnyE.slices_DeleteFunc delLay (Value.int .i64) (fun _ => rfl) p g lb eg 0 Try.zeroValue3 gb 0 cap l.toArray w
      (fun W x hb => hp W x (fun i hi _ => hb.block i hi))
      (fun n os dk x _ => hp _ x (fun i hi hne => by
        show (Sort.grow (Sort.putRow _ (Sort.ahead w n) gb 0 dk) os).heap[i]? = _
        rw [Sort.heap_grow_old _ _ (by simpa using hi)]
        have : gb ≠ i := fun e => hne (by rw [← e]; rfl)
        simp [Sort.putRow, Sort.mapBlock, Sort.ahead, Array.getElem?_modify, this]))
      hH (by simp only [List.size_toArray]; unfold maxLen at h2; omega) (by simpa using h1)
    change Calls Try.prog 52 _ _ _ at hcon
    simp only [List.size_toArray] at hcon
    refine hcon.mono ?_
    rintro e w' ⟨rfl, q, rfl⟩
    have hle : (l.filter fun x => !p x).length ≤ l.length := List.length_filter_le _ _
    exact ⟨_, rfl, Kd.R_of_own (ownsRow_putI _ _ hbase hheap h1 h2 h3 (by omega)) (fun k hk => ho.1 k hk), below_putI _ hB hbw hbase⟩

-- NOT PRINTED: function 62 (impl_stable_1)

/-! ### impl_stable: function 51 (by hand) -/
/-- Is the set x not stable (of n items)? -/
def stabBad (n x : Int) : Bool := (Go.bits .and .i64 x (x / 2) != 0) || (decide (1 < n) && ((Go.bits .and .i64 x 1 != 0) && (Go.bits .and .i64 (x / 2 ^ (n - 1).toNat) 1 != 0)))
def impl_stable.f (k : Nat) (a0 : Int) (a1 : Int) : Option (List Int) := (impl_setsOf.f k a0 a1).bind fun s => if 1 ≤ a0 ∧ a0 ≤ 8 then some (s.filter fun x => !stabBad a0 x) else none
theorem impl_stable.mono : ∀ a0 a1 k, LeO (impl_stable.f k a0 a1) (impl_stable.f (k + 1) a0 a1) := by
  intro a0 a1 k
  unfold impl_stable.f
  exact LeO.bind (impl_setsOf.mono _ _ _) (fun s => LeO.refl _)
set_option maxHeartbeats 4000000 in
theorem stable_asks (n x : Int) (h1 : 1 ≤ n) (h2 : n ≤ 8) (B : Nat) (W : World) (hc : W.cell? ⟨B, 0, none⟩ = some (.int .i64 n)) :
    Go.Proofs.FnGives Try.prog 62 #[.pointer (some ⟨B, 0, none⟩)] #[.int .i64 x] (.bool (stabBad n x)) W := by
  show Calls Try.prog 62 #[.int .i64 x, .pointer (some ⟨B, 0, none⟩)] W _
  unfold stabBad
  cases e1 : (Go.bits .and .i64 x (x / 2) != 0) with
  | true =>
    have hn : n = 1 ∨ 1 < n := by omega
    rcases hn with rfl | hn
    · go_enter Try.func62, Try.ntmps62
      go_wp2
      all_goals (go_ret; exact ⟨by simp [e1], 0, rfl⟩)
    · have h3 : decide (1 < n) = true := decide_eq_true hn
      go_enter Try.func62, Try.ntmps62
      go_wp2
      all_goals (go_ret; exact ⟨by simp [e1], 0, rfl⟩)
  | false =>
    have hn : n = 1 ∨ n = 2 ∨ n = 3 ∨ n = 4 ∨ n = 5 ∨ n = 6 ∨ n = 7 ∨ n = 8 := by omega
    clear h1 h2
    rcases hn with rfl | hn
    · go_enter Try.func62, Try.ntmps62
      go_wp2
      all_goals (go_ret; exact ⟨by simp [e1], 0, rfl⟩)
    · cases e2 : (Go.bits .and .i64 x 1 != 0) with
      | false =>
        rcases hn with rfl | rfl | rfl | rfl | rfl | rfl | rfl
        all_goals
          go_enter Try.func62, Try.ntmps62
          go_wp2
          all_goals (go_ret; exact ⟨by simp [e1, e2], 0, rfl⟩)
      | true =>
        rcases hn with rfl | rfl | rfl | rfl | rfl | rfl | rfl
        all_goals
          simp only [show ((2 : Int) - 1).toNat = 1 from rfl, show ((3 : Int) - 1).toNat = 2 from rfl, show ((4 : Int) - 1).toNat = 3 from rfl, show ((5 : Int) - 1).toNat = 4 from rfl, show ((6 : Int) - 1).toNat = 5 from rfl, show ((7 : Int) - 1).toNat = 6 from rfl, show ((8 : Int) - 1).toNat = 7 from rfl, Int.reducePow]
          go_enter Try.func62, Try.ntmps62
          go_wp2
          all_goals (go_ret; exact ⟨by simp [e1, e2], 0, rfl⟩)
set_option maxHeartbeats 8000000 in
set_option maxRecDepth 100000 in
theorem impl_stable.calls (k : Nat) (a0 : Int) (a1 : Int) (r : List Int) (w : World) (h : impl_stable.f k a0 a1 = some r) :
    Calls Try.prog 51 #[.int .i64 a0, .int .i64 a1] w fun e w' => ∃ v0_ : Value, e = .returned (v0_) ∧ Kd.R (Kd.int .i64) 3 w' w.heap.size (fun _ => True) v0_ r ∧ Below w.heap.size w w' := by
  unfold impl_stable.f at h
  obtain ⟨s, A1, h⟩ := Option.bind_eq_some_iff.mp h
  have A1 := Aside0.mk A1
  by_cases hn : 1 ≤ a0 ∧ a0 ≤ 8
  · rw [if_pos hn] at h
    obtain rfl := Option.some.inj h
    have hdel := fun (W : World) (v : Value) (ho : Kd.R (Kd.int .i64) 3 W (w.heap.size + 1) (fun _ => True) v s) (hc : W.cell? ⟨w.heap.size, 0, none⟩ = some (.int .i64 a0)) (hB : Below (w.heap.size + 1) (w.alloc (.cells #[.int .i64 a0] 3)) W) (hs : w.heap.size + 1 ≤ W.heap.size) =>
      deleteFuncI 62 #[.pointer (some ⟨w.heap.size, 0, none⟩)] (enters_of Try.func62 (by kernel_rfl) rfl) (stabBad a0) (w.heap.size + 1) _ v s _ W ho
        (fun W2 x hk => stable_asks a0 x hn.1 hn.2 w.heap.size W2 (by
          rw [← hc]
          have hlt : w.heap.size < W.heap.size := by omega
          have := hk w.heap.size hlt (fun e => by have := Kd.R_base ho _ e.symm; omega)
          simp only [World.cell?, this])) hB hs
    have HD := Aside0.mk hdel
    clear hdel hn h
    go_enter Try.func51, Try.ntmps51
    go_wp2_with (first
      | (go_at_call 50; (with_reducible refine (impl_setsOf.calls k a0 a1 s _ A1.out).mono ?_); rintro e w1 ⟨v1, rfl, ho, hb⟩; have HO := Aside0.mk ho; clear ho; have HB := Aside0.mk hb; clear hb)
      | (go_at_call 52; (refine (HD.out _ _ ?c1 ?c2 ?c3 ?c4).mono ?_); (case c1 => have := HO.out; simpa using this); (case c2 => exact (HB.out.cell (p := ⟨w.heap.size, 0, none⟩) (by simp)).trans (by simp)); (case c3 => have := HB.out; simpa using this); (case c4 => have := HB.out.size; simpa using this); rintro e w2 ⟨v2, rfl, ho, hb⟩; have HO2 := Aside0.mk ho; clear ho; have HB2 := Aside0.mk hb; clear hb))
    go_ret
    exact ⟨_, rfl, Kd.R_lower HO2.out (by omega), ((Below.refl _ w).alloc (Nat.le_refl _) _).trans (HB2.out.mono (by omega))⟩
  · rw [if_neg hn] at h
    exact absurd h (by simp)

/-! ### impl_CountStable: function 30 -/
def impl_CountStable.f (k : Nat) (a0 : Int) (a1 : Int) : Option (Int × Bool) := (impl_areItems.f a0 a1).bind fun t149 => (if t149 = true then ((impl_stable.f k a0 a1).bind fun t150 => (some ((t150.length : Int), true))) else (some (0, false)))
theorem impl_CountStable.mono : ∀ a0 a1 k, LeO (impl_CountStable.f k a0 a1) (impl_CountStable.f (k + 1) a0 a1) := by
  intro a0 a1 k
  unfold impl_CountStable.f
  repeat' first
      | (with_reducible exact impl_stable.mono _ _ _)
      | (with_reducible exact LeO.refl _)
      | (with_reducible exact LeO.none _)
      | (with_reducible refine LeO.ite ?_ ?_)
      | (with_reducible refine LeO.bind ?_ (fun _ => ?_))
      | exact impl_stable.mono _ _ _
      | exact LeO.none _
      | refine LeO.ite ?_ ?_
      | refine LeO.bind ?_ (fun _ => ?_)
set_option maxHeartbeats 8000000 in
set_option maxRecDepth 100000 in
theorem impl_CountStable.calls (k : Nat) (a0 : Int) (a1 : Int) (r1 : Int) (r2 : Bool) (w : World) (h : impl_CountStable.f k a0 a1 = some (r1, r2)) :
    Calls Try.prog 30 #[.int .i64 a0, .int .i64 a1] w fun e w' => e = .returned (.tuple #[.int .i64 r1, .bool r2]) ∧ Below w.heap.size w w' := by
  have HB := Aside0.mk (Below.refl w.heap.size w)
  have H : ((impl_areItems.f a0 a1).bind fun t149 => (if t149 = true then ((impl_stable.f k a0 a1).bind fun t150 => (some ((t150.length : Int), true))) else (some (0, false)))) = some (r1, r2) := h
  clear h
  replace H := Option.bind_eq_some_iff.mp H
  obtain ⟨t149, A30, H⟩ := H
  replace H : (if t149 = true then ((impl_stable.f k a0 a1).bind fun t150 => (some ((t150.length : Int), true))) else (some (0, false))) = some (r1, r2) := H
  have A3 := Aside0.mk A30
  clear A30
  by_cases c4 : t149 = true
  · subst c4
    have H1 : ((impl_stable.f k a0 a1).bind fun t150 => (some ((t150.length : Int), true))) = some (r1, r2) := by rw [if_pos rfl] at H; exact H
    clear H
    have H := H1
    clear H1
    replace H := Option.bind_eq_some_iff.mp H
    obtain ⟨t150, A50, H⟩ := H
    replace H : (some ((t150.length : Int), true)) = some (r1, r2) := H
    have A5 := Aside0.mk A50
    clear A50
    simp only [Option.some.injEq, Prod.mk.injEq] at H
    obtain ⟨rfl, rfl⟩ := H
    go_enter Try.func30, Try.ntmps30
    go_wp2_with (first | ((with_reducible refine gate_callee (f := 44) rfl ?_); refine goesL_ (some 8) rfl rfl Try.func44 (by kernel_rfl) rfl #[.int .i64 a0, .int .i64 a1] rfl (by (try simp only [List.map_toArray, List.map_cons, List.map_nil]); first | done | rfl | (simp only [List.length_drop, List.length_take]; rfl)) ?_; (with_reducible refine (impl_areItems.calls a0 a1 true _ A3.out).mono ?_); rintro e w' ⟨rfl, ⟨nd, rfl⟩⟩; refine ⟨_, rfl, ?_⟩) | ((with_reducible refine gate_callee (f := 51) rfl ?_); refine goesL_ (some 12) rfl rfl Try.func51 (by kernel_rfl) rfl #[.int .i64 a0, .int .i64 a1] rfl (by (try simp only [List.map_toArray, List.map_cons, List.map_nil]); first | done | rfl | (simp only [List.length_drop, List.length_take]; rfl)) ?_; (with_reducible refine (impl_stable.calls k a0 a1 t150 _ A5.out).mono ?_); rintro e w6 ⟨v151, rfl, ho0, hb⟩; refine ⟨_, rfl, ?_⟩; have n0_ := Aside0.mk (Kd.R_lower ho0 (below_size (by repeat (first | (with_reducible first | exact HB.out | apply below_alloc | apply pw_below_drewN | apply below_drew1) | exact HB.out)))); have n1_ := Aside0.mk (below_step (by repeat (first | (with_reducible first | exact HB.out | apply below_alloc | apply pw_below_drewN | apply below_drew1) | exact HB.out)) hb); clear HB; have HO152 := n0_; have HB := n1_; clear n0_ n1_; (try clear hb); (try clear hb2); (try clear hk); (try clear hi); (try clear ho0); obtain ⟨Ao7, co7, eo7⟩ := Kd.R_slice HO152.out; subst eo7))
    go_ret2
    exact ⟨by first | rfl | (simp [errW_none, errW_some] <;> rfl) | (simp [*, errW_none, errW_some] <;> rfl), by repeat (first | (with_reducible first | exact HB.out | apply below_alloc | apply pw_below_drewN | apply below_drew1) | exact HB.out)⟩
  · replace c4 := Bool.eq_false_iff.mpr c4
    subst c4
    have H1 : (some (0, false)) = some (r1, r2) := by rw [if_neg (show ¬ (false = true) by decide)] at H; exact H
    clear H
    have H := H1
    clear H1
    simp only [Option.some.injEq, Prod.mk.injEq] at H
    obtain ⟨rfl, rfl⟩ := H
    go_enter Try.func30, Try.ntmps30
    go_wp2_with (first | ((with_reducible refine gate_callee (f := 44) rfl ?_); refine goesL_ (some 8) rfl rfl Try.func44 (by kernel_rfl) rfl #[.int .i64 a0, .int .i64 a1] rfl (by (try simp only [List.map_toArray, List.map_cons, List.map_nil]); first | done | rfl | (simp only [List.length_drop, List.length_take]; rfl)) ?_; (with_reducible refine (impl_areItems.calls a0 a1 false _ A3.out).mono ?_); rintro e w' ⟨rfl, ⟨nd, rfl⟩⟩; refine ⟨_, rfl, ?_⟩))
    go_ret2
    exact ⟨by first | rfl | (simp [errW_none, errW_some] <;> rfl) | (simp [*, errW_none, errW_some] <;> rfl), by repeat (first | (with_reducible first | exact HB.out | apply below_alloc | apply pw_below_drewN | apply below_drew1) | exact HB.out)⟩

end Go.Proofs.Ytjklbakimmnjdaa.All
