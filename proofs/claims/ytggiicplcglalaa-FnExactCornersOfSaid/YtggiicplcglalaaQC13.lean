/- Part of the proof that the law FnExactCornersOf answers true for all arguments. -/
import Derived.Test.YtggiicplcglalaaQC12
section
namespace Go.Proofs.Ytggiicplcglalaa.All
open Go.RowKit Go.Proofs.YtggiicplcglalaaW.PrintWords Go.Proofs.YtggiicplcglalaaW.PrintLast Go.Proofs.YtggiicplcglalaaW.PrintMore
attribute [local go_sem] max2_int min2_int max_two min_two max_three min_three max_four min_four
set_option linter.unusedVariables false
set_option linter.unusedSimpArgs false
def impl_IsGame.f (l0_0 : List (List Int)) (l0_1 : List (List Int)) : Option (Bool) := (impl_isTable.f l0_0).bind fun t323 => (if t323 = true then ((impl_isTable.f l0_1).bind fun t324 => (if t324 = true then (if (l0_0.length : Int) = (l0_1.length : Int) then (if 0 < (l0_0.length : Int) then (if 0 < (l0_1.length : Int) then (some (((rd_L1 l0_0 0).length : Int) == ((rd_L1 l0_1 0).length : Int))) else (none)) else (none)) else (some false)) else (some false))) else (some false))
def impl_IsGame.T1 : Bool × List (List Nat × List Nat) := (true, [([], []), ([0], [0]), ([1], [1]), ([2, 2], [2]), ([3], [3]), ([4, 3], [3, 4]), ([5, 3, 3], [3, 5]), ([3, 6], [3, 6]), ([7, 6], [7]), ([8], [8]), ([9, 8], [8, 9]), ([10, 8], [8, 10]), ([8], [8]), ([12, 8], [8, 12]), ([13, 8], [8, 13]), ([11, 14, 8], [8, 11, 14]), ([8, 15], [8, 15]), ([16, 8], [16]), ([17], [17]), ([18, 17], [17, 18]), ([19, 17], [17, 19]), ([20, 17], [17, 20]), ([21, 17], [17, 21]), ([17], [17]), ([23, 17], [17, 23]), ([24, 17], [17, 24]), ([25, 17], [17, 25]), ([26, 17], [17, 26]), ([22, 27, 17], [17, 22, 27]), ([17, 28], [17, 28]), ([29, 17, 0, 1, 2, 3, 4, 5, 6, 7, 8, 9, 10, 11, 12, 13, 14, 15, 16, 17, 18, 19, 20, 21, 22, 23, 24, 25, 26, 27, 28, 29], [29])])
def impl_IsGame.B1 : List Nat := [0, 1, 3, 7, 15, 31, 63, 127, 255, 511, 1023, 2047, 511, 4607, 12799, 32767, 65535, 131071, 262143, 524287, 1048575, 2097151, 4194303, 262143, 8650751, 25427967, 58982399, 126091263, 268435455, 536870911, 1073741823]
theorem impl_IsGame.tab1 : rtab .any (opsOf Try.f29 1) = impl_IsGame.T1 := by kernel_rfl
theorem impl_IsGame.bits1 : waitsOk impl_IsGame.T1.2 impl_IsGame.B1 = true := by kernel_rfl
set_option maxHeartbeats 8000000 in
set_option maxRecDepth 100000 in
theorem impl_IsGame.calls (A0_0 : Option Addr) (c0_0 : Nat) (l0_0 : List (List Int)) (A0_1 : Option Addr) (c0_1 : Nat) (l0_1 : List (List Int)) (r : Bool) (w : World) (hr0_0 : Kd.C (Kd.slice 3 (Kd.int .i64)) w A0_0 l0_0.length l0_0) (hc0_0 : l0_0.length ≤ c0_0) (hr0_1 : Kd.C (Kd.slice 3 (Kd.int .i64)) w A0_1 l0_1.length l0_1) (hc0_1 : l0_1.length ≤ c0_1) (h : impl_IsGame.f l0_0 l0_1 = some r) :
  Calls Try.prog 29 #[.agg #[.slice A0_0 l0_0.length c0_0, .slice A0_1 l0_1.length c0_1]] w fun e w' => e = .returned (.bool r) ∧ Below w.heap.size w w' := by
 have hu28 := Try.underlying28
 have HR0_0 := Aside0.mk hr0_0
 have HC0_0 := Aside0.mk hc0_0
 clear hr0_0 hc0_0
 have HR0_1 := Aside0.mk hr0_1
 have HC0_1 := Aside0.mk hc0_1
 clear hr0_1 hc0_1
 have HB := Aside0.mk (Below.refl w.heap.size w)
 have H : ((impl_isTable.f l0_0).bind fun t323 => (if t323 = true then ((impl_isTable.f l0_1).bind fun t324 => (if t324 = true then (if (l0_0.length : Int) = (l0_1.length : Int) then (if 0 < (l0_0.length : Int) then (if 0 < (l0_1.length : Int) then (some (((rd_L1 l0_0 0).length : Int) == ((rd_L1 l0_1 0).length : Int))) else (none)) else (none)) else (some false)) else (some false))) else (some false))) = some r := h
 clear h
 replace H := bindA H; obtain ⟨t323, A2, H⟩ := H
 by_cases c3 : t323 = true
 rotate_left
 ·replace c3 := Bool.eq_false_iff.mpr c3
  subst c3
  replace H := ifF H
  obtain rfl := Option.some.inj H
  go_enter Try.func29, Try.ntmps29
  try go_wp2_with (first | ((with_reducible refine gate_dst (N := 1) rfl ?_); (try (refine gate_guard (by rfl) ?_; dsimp only)); refine bE 1 #[.slice A0_0 l0_0.length c0_0, .slice A0_1 l0_1.length c0_1] 28 ?_; intro gb322 hg w21 hbox hb; have BK322 := am (hbox); have GW322 := am ((by rw [hg]; exact (below_size (mb HB.out)) : w.heap.size ≤ gb322)); have GE322 := GW322; replace HB := am (below_step (mb HB.out) hb); clear hb hbox hg))
  replace BK322 := am (blk_drew BK322.out)
  replace HB := am (below_drew1 HB.out)
  refine start_ (n := 31) (S := fun w' => w'.cell? ⟨gb322, 0, none⟩ = some (.slice A0_0 l0_0.length c0_0) ∧ w'.cell? ⟨gb322, 1, none⟩ = some (.slice A0_1 l0_1.length c0_1)) (ds := []) (Array.replicate 31 false) (by kernel_rfl) rfl rfl ⟨(blk_cell BK322.out 0).trans rfl, (blk_cell BK322.out 1).trans rfl⟩ (fun hHeld => ?_); refine with_tabW impl_IsGame.tab1 impl_IsGame.bits1 (fun HT_ HW_ => ?_)
  generalize w21.drew = w22 at BK322 HB hHeld ⊢
  refine pY 0 3 HT_ ?_
  refine tY 1 4 HT_ HW_ hHeld ?_
  refine oY 2 5 HT_ (fun K hK => ?_)
  refine gY Try.func52 #[.slice A0_0 l0_0.length c0_0] ?_
  with_reducible refine (impl_isTable.calls _ _ l0_0 false _ ?side1 ?side2 A2.out).mono ?_
  (case side1 => exact mvC (Kd.C_below HR0_0.out HB.out))
  (case side2 => exact HC0_0.out)
  rintro e w23 ⟨rfl, hb⟩
  refine ⟨_, rfl, ?_⟩
  replace BK322 := am (blk_below (mvK BK322.out) hb)
  replace HB := am (below_step (mb HB.out) hb)
  (try clear hb)
  (try clear hb2)
  (try clear hk)
  (try clear hi)
  refine hK.out _ _ ⟨(blk_cell BK322.out 0).trans rfl, (blk_cell BK322.out 1).trans rfl⟩ (fun hHeld => ?_)
  clear hK K
  refine nY 5 ?_
  refine pY 3 6 HT_ ?_
  refine uY 4 7 HT_ ?_; refine uY 5 8 HT_ ?_
  refine uY 6 9 HT_ ?_
  refine pY 7 10 HT_ ?_
  refine pY 8 11 HT_ ?_
  refine uY 9 12 HT_ ?_; refine uY 10 13 HT_ ?_
  refine uY 11 14 HT_ ?_; refine uY 12 15 HT_ ?_
  refine uY 13 16 HT_ ?_; refine uY 14 17 HT_ ?_
  refine uY 15 18 HT_ ?_
  refine pY 16 19 HT_ ?_
  refine pY 17 20 HT_ ?_
  refine uY 18 21 HT_ ?_; refine uY 19 22 HT_ ?_
  refine uY 20 23 HT_ ?_; refine uY 21 24 HT_ ?_
  refine uY 22 25 HT_ ?_; refine uY 23 26 HT_ ?_
  refine uY 24 27 HT_ ?_; refine uY 25 28 HT_ ?_
  refine uY 26 29 HT_ ?_; refine uY 27 30 HT_ ?_
  refine uY 28 31 HT_ ?_
  refine pY 29 32 HT_ ?_
  refine pY 30 2 HT_ ?_
  refine dY HT_ ?_
  try go_wp2
  go_ret
  exact ⟨eqE, mb HB.out⟩
 subst c3
 replace H := ifT H
 replace H := bindA H; obtain ⟨t324, A4, H⟩ := H
 by_cases c5 : t324 = true
 rotate_left
 ·replace c5 := Bool.eq_false_iff.mpr c5
  subst c5
  replace H := ifF H
  obtain rfl := Option.some.inj H
  go_enter Try.func29, Try.ntmps29
  try go_wp2_with (first | ((with_reducible refine gate_dst (N := 1) rfl ?_); (try (refine gate_guard (by rfl) ?_; dsimp only)); refine bE 1 #[.slice A0_0 l0_0.length c0_0, .slice A0_1 l0_1.length c0_1] 28 ?_; intro gb322 hg w17 hbox hb; have BK322 := am (hbox); have GW322 := am ((by rw [hg]; exact (below_size (mb HB.out)) : w.heap.size ≤ gb322)); have GE322 := GW322; replace HB := am (below_step (mb HB.out) hb); clear hb hbox hg))
  replace BK322 := am (blk_drew BK322.out)
  replace HB := am (below_drew1 HB.out)
  refine start_ (n := 31) (S := fun w' => w'.cell? ⟨gb322, 0, none⟩ = some (.slice A0_0 l0_0.length c0_0) ∧ w'.cell? ⟨gb322, 1, none⟩ = some (.slice A0_1 l0_1.length c0_1)) (ds := []) (Array.replicate 31 false) (by kernel_rfl) rfl rfl ⟨(blk_cell BK322.out 0).trans rfl, (blk_cell BK322.out 1).trans rfl⟩ (fun hHeld => ?_); refine with_tabW impl_IsGame.tab1 impl_IsGame.bits1 (fun HT_ HW_ => ?_)
  generalize w17.drew = w18 at BK322 HB hHeld ⊢
  refine pY 0 3 HT_ ?_
  refine tY 1 4 HT_ HW_ hHeld ?_
  refine oY 2 5 HT_ (fun K hK => ?_)
  refine gY Try.func52 #[.slice A0_0 l0_0.length c0_0] ?_
  with_reducible refine (impl_isTable.calls _ _ l0_0 true _ ?side1 ?side2 A2.out).mono ?_
  (case side1 => exact mvC (Kd.C_below HR0_0.out HB.out))
  (case side2 => exact HC0_0.out)
  rintro e w19 ⟨rfl, hb⟩
  refine ⟨_, rfl, ?_⟩
  replace BK322 := am (blk_below (mvK BK322.out) hb)
  replace HB := am (below_step (mb HB.out) hb)
  (try clear hb)
  (try clear hb2)
  (try clear hk)
  (try clear hi)
  refine hK.out _ _ ⟨(blk_cell BK322.out 0).trans rfl, (blk_cell BK322.out 1).trans rfl⟩ (fun hHeld => ?_)
  clear hK K
  refine nY 5 ?_
  refine pY 3 6 HT_ ?_
  refine pY 4 7 HT_ ?_
  refine tY 5 8 HT_ HW_ hHeld ?_
  refine oY 6 9 HT_ (fun K hK => ?_)
  refine gY Try.func52 #[.slice A0_1 l0_1.length c0_1] ?_
  with_reducible refine (impl_isTable.calls _ _ l0_1 false _ ?side1 ?side2 A4.out).mono ?_
  (case side1 => exact mvC (Kd.C_below HR0_1.out HB.out))
  (case side2 => exact HC0_1.out)
  rintro e w20 ⟨rfl, hb⟩
  refine ⟨_, rfl, ?_⟩
  replace BK322 := am (blk_below (mvK BK322.out) hb)
  replace HB := am (below_step (mb HB.out) hb)
  (try clear hb)
  (try clear hb2)
  (try clear hk)
  (try clear hi)
  refine hK.out _ _ ⟨(blk_cell BK322.out 0).trans rfl, (blk_cell BK322.out 1).trans rfl⟩ (fun hHeld => ?_)
  clear hK K
  refine nY 9 ?_
  refine pY 7 10 HT_ ?_
  refine pY 8 11 HT_ ?_
  refine uY 9 12 HT_ ?_; refine uY 10 13 HT_ ?_
  refine uY 11 14 HT_ ?_; refine uY 12 15 HT_ ?_
  refine uY 13 16 HT_ ?_; refine uY 14 17 HT_ ?_
  refine uY 15 18 HT_ ?_
  refine pY 16 19 HT_ ?_
  refine pY 17 20 HT_ ?_
  refine uY 18 21 HT_ ?_; refine uY 19 22 HT_ ?_
  refine uY 20 23 HT_ ?_; refine uY 21 24 HT_ ?_
  refine uY 22 25 HT_ ?_; refine uY 23 26 HT_ ?_
  refine uY 24 27 HT_ ?_; refine uY 25 28 HT_ ?_
  refine uY 26 29 HT_ ?_; refine uY 27 30 HT_ ?_
  refine uY 28 31 HT_ ?_
  refine pY 29 32 HT_ ?_
  refine pY 30 2 HT_ ?_
  refine dY HT_ ?_
  try go_wp2
  go_ret
  exact ⟨eqE, mb HB.out⟩
 subst c5
 replace H := ifT H
 by_cases c6 : (l0_0.length : Int) = (l0_1.length : Int)
 rotate_left
 ·rw [if_neg c6] at H
  have c6b0 := neb1 c6
  have c6b1 := neb2 c6
  have c6b2 : (l0_0.length == l0_1.length) = false := by first | simpa using c6 | (simp at c6 ⊢; omega)
  obtain rfl := Option.some.inj H
  go_enter Try.func29, Try.ntmps29
  try go_wp2_with (first | ((with_reducible refine gate_dst (N := 1) rfl ?_); (try (refine gate_guard (by rfl) ?_; dsimp only)); refine bE 1 #[.slice A0_0 l0_0.length c0_0, .slice A0_1 l0_1.length c0_1] 28 ?_; intro gb322 hg w13 hbox hb; have BK322 := am (hbox); have GW322 := am ((by rw [hg]; exact (below_size (mb HB.out)) : w.heap.size ≤ gb322)); have GE322 := GW322; replace HB := am (below_step (mb HB.out) hb); clear hb hbox hg))
  replace BK322 := am (blk_drew BK322.out)
  replace HB := am (below_drew1 HB.out)
  refine start_ (n := 31) (S := fun w' => w'.cell? ⟨gb322, 0, none⟩ = some (.slice A0_0 l0_0.length c0_0) ∧ w'.cell? ⟨gb322, 1, none⟩ = some (.slice A0_1 l0_1.length c0_1)) (ds := []) (Array.replicate 31 false) (by kernel_rfl) rfl rfl ⟨(blk_cell BK322.out 0).trans rfl, (blk_cell BK322.out 1).trans rfl⟩ (fun hHeld => ?_); refine with_tabW impl_IsGame.tab1 impl_IsGame.bits1 (fun HT_ HW_ => ?_)
  generalize w13.drew = w14 at BK322 HB hHeld ⊢
  refine pY 0 3 HT_ ?_
  refine tY 1 4 HT_ HW_ hHeld ?_
  refine oY 2 5 HT_ (fun K hK => ?_)
  refine gY Try.func52 #[.slice A0_0 l0_0.length c0_0] ?_
  with_reducible refine (impl_isTable.calls _ _ l0_0 true _ ?side1 ?side2 A2.out).mono ?_
  (case side1 => exact mvC (Kd.C_below HR0_0.out HB.out))
  (case side2 => exact HC0_0.out)
  rintro e w15 ⟨rfl, hb⟩
  refine ⟨_, rfl, ?_⟩
  replace BK322 := am (blk_below (mvK BK322.out) hb)
  replace HB := am (below_step (mb HB.out) hb)
  (try clear hb)
  (try clear hb2)
  (try clear hk)
  (try clear hi)
  refine hK.out _ _ ⟨(blk_cell BK322.out 0).trans rfl, (blk_cell BK322.out 1).trans rfl⟩ (fun hHeld => ?_)
  clear hK K
  refine nY 5 ?_
  refine pY 3 6 HT_ ?_
  refine pY 4 7 HT_ ?_
  refine tY 5 8 HT_ HW_ hHeld ?_
  refine oY 6 9 HT_ (fun K hK => ?_)
  refine gY Try.func52 #[.slice A0_1 l0_1.length c0_1] ?_
  with_reducible refine (impl_isTable.calls _ _ l0_1 true _ ?side1 ?side2 A4.out).mono ?_
  (case side1 => exact mvC (Kd.C_below HR0_1.out HB.out))
  (case side2 => exact HC0_1.out)
  rintro e w16 ⟨rfl, hb⟩
  refine ⟨_, rfl, ?_⟩
  replace BK322 := am (blk_below (mvK BK322.out) hb)
  replace HB := am (below_step (mb HB.out) hb)
  (try clear hb)
  (try clear hb2)
  (try clear hk)
  (try clear hi)
  refine hK.out _ _ ⟨(blk_cell BK322.out 0).trans rfl, (blk_cell BK322.out 1).trans rfl⟩ (fun hHeld => ?_)
  clear hK K
  refine nY 9 ?_
  refine pY 7 10 HT_ ?_
  refine pY 8 11 HT_ ?_
  refine pY 9 12 HT_ ?_
  refine pY 12 15 HT_ ?_
  refine tY 10 13 HT_ HW_ hHeld ?_
  refine pY 11 14 HT_ ?_
  refine tY 13 16 HT_ HW_ hHeld ?_
  refine pY 14 17 HT_ ?_
  refine pY 15 18 HT_ ?_
  refine pY 16 19 HT_ ?_
  refine pY 17 20 HT_ ?_
  refine uY 18 21 HT_ ?_; refine uY 19 22 HT_ ?_
  refine uY 20 23 HT_ ?_; refine uY 21 24 HT_ ?_
  refine uY 22 25 HT_ ?_; refine uY 23 26 HT_ ?_
  refine uY 24 27 HT_ ?_; refine uY 25 28 HT_ ?_
  refine uY 26 29 HT_ ?_; refine uY 27 30 HT_ ?_
  refine uY 28 31 HT_ ?_
  refine pY 29 32 HT_ ?_
  refine pY 30 2 HT_ ?_
  refine dY HT_ ?_
  try go_wp2
  go_ret
  exact ⟨eqE, mb HB.out⟩
 rw [if_pos c6] at H
 have c6b0 := eqb1 c6
 have c6b1 := eqb2 c6
 have c6b2 : (l0_0.length == l0_1.length) = true := by first | simpa using c6 | (simp at c6 ⊢; omega)
 clear c6
 replace H := ifP H; obtain ⟨c7, H⟩ := H
 have c7b0 := decide_eq_true c7
 have c7b1 : decide (0 < l0_0.length) = true := decide_eq_true (by omega)
 clear c7
 replace H := ifP H; obtain ⟨c8, H⟩ := H
 have c8b0 := decide_eq_true c8
 have c8b1 : decide (0 < l0_1.length) = true := decide_eq_true (by omega)
 clear c8
 obtain rfl := Option.some.inj H
 go_enter Try.func29, Try.ntmps29
 try go_wp2_with (first | ((with_reducible refine gate_dst (N := 1) rfl ?_); (try (refine gate_guard (by rfl) ?_; dsimp only)); refine bE 1 #[.slice A0_0 l0_0.length c0_0, .slice A0_1 l0_1.length c0_1] 28 ?_; intro gb322 hg w9 hbox hb; have BK322 := am (hbox); have GW322 := am ((by rw [hg]; exact (below_size (mb HB.out)) : w.heap.size ≤ gb322)); have GE322 := GW322; replace HB := am (below_step (mb HB.out) hb); clear hb hbox hg))
 replace BK322 := am (blk_drew BK322.out)
 replace HB := am (below_drew1 HB.out)
 have p325 : 0 ≤ (0 : Int) := (by omega)
 have q325 : 0 < (l0_0.length : Int) := odE
 obtain ⟨ad325, A325_0, c325_0, e325, hx325_0, hl325_0, hi325_0⟩ := at_L1 HR0_0.out 0 p325 q325
 have hw325_0 := hx325_0
 (try rw [show ((0 : Int)).toNat = 0 from rfl] at hw325_0)
 (try rw [show 0 * 1 = 0 from rfl] at hw325_0)
 (try rw [Addr.add_zero'] at hw325_0)
 cases e325
 have qi325 : (0 < l0_0.length) = True := eq_true (by omega)
 (try rw [show ((0 : Int)).toNat = 0 from rfl] at hx325_0)
 (try rw [Addr.add_zero'] at hx325_0)
 replace hx325_0 := (HB.out.cell (World.block_lt_of_cell? w _ hx325_0)).trans hx325_0
 have HR325_0 := Aside0.mk hi325_0
 have HC325_0 := Aside0.mk hl325_0
 clear hi325_0 hl325_0
 replace p325 := eq_true p325
 replace q325 := eq_true q325
 have p326 : 0 ≤ (0 : Int) := (by omega)
 have q326 : 0 < (l0_1.length : Int) := odE
 obtain ⟨ad326, A326_0, c326_0, e326, hx326_0, hl326_0, hi326_0⟩ := at_L1 HR0_1.out 0 p326 q326
 have hw326_0 := hx326_0
 (try rw [show ((0 : Int)).toNat = 0 from rfl] at hw326_0)
 (try rw [show 0 * 1 = 0 from rfl] at hw326_0)
 (try rw [Addr.add_zero'] at hw326_0)
 cases e326
 have qi326 : (0 < l0_1.length) = True := eq_true (by omega)
 (try rw [show ((0 : Int)).toNat = 0 from rfl] at hx326_0)
 (try rw [Addr.add_zero'] at hx326_0)
 replace hx326_0 := (HB.out.cell (World.block_lt_of_cell? w _ hx326_0)).trans hx326_0
 have HR326_0 := Aside0.mk hi326_0
 have HC326_0 := Aside0.mk hl326_0
 clear hi326_0 hl326_0
 replace p326 := eq_true p326
 replace q326 := eq_true q326
 refine start_ (n := 31) (S := fun w' => w'.cell? ⟨gb322, 0, none⟩ = some (.slice (some ad325) l0_0.length c0_0) ∧ w'.cell? ⟨gb322, 1, none⟩ = some (.slice (some ad326) l0_1.length c0_1) ∧ w'.cell? ad325 = some (.slice A325_0 (rd_L1 l0_0 0).length c325_0) ∧ w'.cell? ad326 = some (.slice A326_0 (rd_L1 l0_1 0).length c326_0)) (ds := []) (Array.replicate 31 false) (by kernel_rfl) rfl rfl ⟨(blk_cell BK322.out 0).trans rfl, (blk_cell BK322.out 1).trans rfl, ((HB.out.cell (World.block_lt_of_cell? w _ hw325_0)).trans hw325_0), ((HB.out.cell (World.block_lt_of_cell? w _ hw326_0)).trans hw326_0)⟩ (fun hHeld => ?_); refine with_tabW impl_IsGame.tab1 impl_IsGame.bits1 (fun HT_ HW_ => ?_)
 generalize w9.drew = w10 at BK322 HB HR325_0 HR326_0 hx325_0 hx326_0 hHeld ⊢
 refine pY 0 3 HT_ ?_
 refine tY 1 4 HT_ HW_ hHeld ?_
 refine oY 2 5 HT_ (fun K hK => ?_)
 refine gY Try.func52 #[.slice (some ad325) l0_0.length c0_0] ?_
 with_reducible refine (impl_isTable.calls _ _ l0_0 true _ ?side1 ?side2 A2.out).mono ?_
 (case side1 => exact mvC (Kd.C_below HR0_0.out HB.out))
 (case side2 => exact HC0_0.out)
 rintro e w11 ⟨rfl, hb⟩
 refine ⟨_, rfl, ?_⟩
 replace BK322 := am (blk_below (mvK BK322.out) hb)
 replace HB := am (below_step (mb HB.out) hb)
 (try clear hb)
 (try clear hb2)
 (try clear hk)
 (try clear hi)
 refine hK.out _ _ ⟨(blk_cell BK322.out 0).trans rfl, (blk_cell BK322.out 1).trans rfl, ((HB.out.cell (World.block_lt_of_cell? w _ hw325_0)).trans hw325_0), ((HB.out.cell (World.block_lt_of_cell? w _ hw326_0)).trans hw326_0)⟩ (fun hHeld => ?_)
 clear hK K
 refine nY 5 ?_
 refine pY 3 6 HT_ ?_
 refine pY 4 7 HT_ ?_
 refine tY 5 8 HT_ HW_ hHeld ?_
 refine oY 6 9 HT_ (fun K hK => ?_)
 refine gY Try.func52 #[.slice (some ad326) l0_1.length c0_1] ?_
 with_reducible refine (impl_isTable.calls _ _ l0_1 true _ ?side1 ?side2 A4.out).mono ?_
 (case side1 => exact mvC (Kd.C_below HR0_1.out HB.out))
 (case side2 => exact HC0_1.out)
 rintro e w12 ⟨rfl, hb⟩
 refine ⟨_, rfl, ?_⟩
 replace BK322 := am (blk_below (mvK BK322.out) hb)
 replace HB := am (below_step (mb HB.out) hb)
 (try clear hb)
 (try clear hb2)
 (try clear hk)
 (try clear hi)
 refine hK.out _ _ ⟨(blk_cell BK322.out 0).trans rfl, (blk_cell BK322.out 1).trans rfl, ((HB.out.cell (World.block_lt_of_cell? w _ hw325_0)).trans hw325_0), ((HB.out.cell (World.block_lt_of_cell? w _ hw326_0)).trans hw326_0)⟩ (fun hHeld => ?_)
 clear hK K
 refine nY 9 ?_
 refine pY 7 10 HT_ ?_
 refine pY 8 11 HT_ ?_
 refine pY 9 12 HT_ ?_
 refine pY 12 15 HT_ ?_
 refine tY 10 13 HT_ HW_ hHeld ?_
 refine pY 11 14 HT_ ?_
 refine tY 13 16 HT_ HW_ hHeld ?_
 refine pY 14 17 HT_ ?_
 refine pY 15 18 HT_ ?_
 refine pY 16 19 HT_ ?_
 refine pY 17 20 HT_ ?_
 refine pY 18 21 HT_ ?_
 refine pY 23 26 HT_ ?_
 refine tY 19 22 HT_ HW_ hHeld ?_
 refine pY 20 23 HT_ ?_
 refine tY 21 24 HT_ HW_ hHeld ?_
 refine pY 22 25 HT_ ?_
 refine tY 24 27 HT_ HW_ hHeld ?_
 refine pY 25 28 HT_ ?_
 refine tY 26 29 HT_ HW_ hHeld ?_
 refine pY 27 30 HT_ ?_
 refine pY 28 31 HT_ ?_
 refine pY 29 32 HT_ ?_
 refine pY 30 2 HT_ ?_
 refine dY HT_ ?_
 try go_wp2
 go_ret
 exact ⟨eqE, mb HB.out⟩
end Go.Proofs.Ytggiicplcglalaa.All
end
section
namespace Go.Proofs.Ytggiicplcglalaa.All
open Go.RowKit Go.Proofs.YtggiicplcglalaaW.PrintWords Go.Proofs.YtggiicplcglalaaW.PrintLast Go.Proofs.YtggiicplcglalaaW.PrintMore
attribute [local go_sem] max2_int min2_int max_two min_two max_three min_three max_four min_four
set_option linter.unusedVariables false
set_option linter.unusedSimpArgs false
set_option maxHeartbeats 8000000
set_option maxRecDepth 100000
def impl_isPlayer.f (a0 : Int) : Option (Bool) := if a0 = 1 then (some true) else (some (a0 == 2))
theorem impl_isPlayer.calls (a0 : Int) (r : Bool) (w : World) (h : impl_isPlayer.f a0 = some r) :
  Calls Try.prog 30 #[.int .i64 a0] w fun e w' => e = .returned (.bool r) ∧ Drawn0 w w' := by
 have H : (if a0 = 1 then (some true) else (some (a0 == 2))) = some r := h
 clear h
 by_cases c2 : a0 = 1
 rotate_left
 ·rw [if_neg c2] at H
  have c2b0 := neb1 c2
  have c2b1 := neb2 c2
  obtain rfl := Option.some.inj H
  go_enter Try.func30, Try.ntmps30
  go_wp2
  go_ret
  exact ⟨eqD, drE⟩
 rw [if_pos c2] at H
 have c2b0 := eqb1 c2
 have c2b1 := eqb2 c2
 clear c2
 obtain rfl := Option.some.inj H
 go_enter Try.func30, Try.ntmps30
 go_wp2
 go_ret
 exact ⟨eqD, drE⟩
def impl_Game_m.f (l0_0 : List (List Int)) (l0_1 : List (List Int)) : Option (Int) := some (l0_0.length : Int)
theorem impl_Game_m.calls (A0_0 : Option Addr) (c0_0 : Nat) (l0_0 : List (List Int)) (A0_1 : Option Addr) (c0_1 : Nat) (l0_1 : List (List Int)) (r : Int) (w : World) (hr0_0 : Kd.C (Kd.slice 3 (Kd.int .i64)) w A0_0 l0_0.length l0_0) (hc0_0 : l0_0.length ≤ c0_0) (hr0_1 : Kd.C (Kd.slice 3 (Kd.int .i64)) w A0_1 l0_1.length l0_1) (hc0_1 : l0_1.length ≤ c0_1) (h : impl_Game_m.f l0_0 l0_1 = some r) :
  Calls Try.prog 53 #[.agg #[.slice A0_0 l0_0.length c0_0, .slice A0_1 l0_1.length c0_1]] w fun e w' => e = .returned (.int .i64 r) ∧ Below w.heap.size w w' := by
 have hu28 := Try.underlying28
 have HR0_0 := Aside0.mk hr0_0
 have HC0_0 := Aside0.mk hc0_0
 clear hr0_0 hc0_0
 have HR0_1 := Aside0.mk hr0_1
 have HC0_1 := Aside0.mk hc0_1
 clear hr0_1 hc0_1
 have HB := Aside0.mk (Below.refl w.heap.size w)
 have H : (some (l0_0.length : Int)) = some r := h
 clear h
 obtain rfl := Option.some.inj H
 go_enter Try.func53, Try.ntmps53
 go_wp2_with (first | ((with_reducible refine gate_dst (N := 1) rfl ?_); refine bE 1 #[.slice A0_0 l0_0.length c0_0, .slice A0_1 l0_1.length c0_1] 28 ?_; intro gb327 hg w2 hbox hb; have BK327 := am (hbox); have GW327 := am ((by rw [hg]; exact (below_size (mb HB.out)) : w.heap.size ≤ gb327)); have GE327 := GW327; replace HB := am (below_step (mb HB.out) hb); clear hb hbox hg; have hcz3_0 := cell0 BK327.out; have hcz3_1 := cell1 BK327.out; have hfz3_0 := blk_frozen BK327.out 0; have hfz3_1 := blk_frozen BK327.out 1))
 go_ret
 exact ⟨eqE, mb HB.out⟩
def impl_Game_n.f (l0_0 : List (List Int)) (l0_1 : List (List Int)) : Option (Int) := if 0 < (l0_0.length : Int) then (some ((rd_L1 l0_0 0).length : Int)) else (none)
theorem impl_Game_n.calls (A0_0 : Option Addr) (c0_0 : Nat) (l0_0 : List (List Int)) (A0_1 : Option Addr) (c0_1 : Nat) (l0_1 : List (List Int)) (r : Int) (w : World) (hr0_0 : Kd.C (Kd.slice 3 (Kd.int .i64)) w A0_0 l0_0.length l0_0) (hc0_0 : l0_0.length ≤ c0_0) (hr0_1 : Kd.C (Kd.slice 3 (Kd.int .i64)) w A0_1 l0_1.length l0_1) (hc0_1 : l0_1.length ≤ c0_1) (h : impl_Game_n.f l0_0 l0_1 = some r) :
  Calls Try.prog 54 #[.agg #[.slice A0_0 l0_0.length c0_0, .slice A0_1 l0_1.length c0_1]] w fun e w' => e = .returned (.int .i64 r) ∧ Below w.heap.size w w' := by
 have hu28 := Try.underlying28
 have HR0_0 := Aside0.mk hr0_0
 have HC0_0 := Aside0.mk hc0_0
 clear hr0_0 hc0_0
 have HR0_1 := Aside0.mk hr0_1
 have HC0_1 := Aside0.mk hc0_1
 clear hr0_1 hc0_1
 have HB := Aside0.mk (Below.refl w.heap.size w)
 have H : (if 0 < (l0_0.length : Int) then (some ((rd_L1 l0_0 0).length : Int)) else (none)) = some r := h
 clear h
 by_cases c2 : 0 < (l0_0.length : Int)
 rotate_left
 ·rw [if_neg c2] at H
  exact absurd H (by simp)
 rw [if_pos c2] at H
 have c2b0 := decide_eq_true c2
 have c2b1 : decide (0 < l0_0.length) = true := decide_eq_true (by omega)
 clear c2
 obtain rfl := Option.some.inj H
 go_enter Try.func54, Try.ntmps54
 go_wp2_with (first | ((with_reducible refine gate_dst (N := 1) rfl ?_); refine bE 1 #[.slice A0_0 l0_0.length c0_0, .slice A0_1 l0_1.length c0_1] 28 ?_; intro gb328 hg w3 hbox hb; have BK328 := am (hbox); have GW328 := am ((by rw [hg]; exact (below_size (mb HB.out)) : w.heap.size ≤ gb328)); have GE328 := GW328; replace HB := am (below_step (mb HB.out) hb); clear hb hbox hg; have hcz4_0 := cell0 BK328.out; have hcz4_1 := cell1 BK328.out; have hfz4_0 := blk_frozen BK328.out 0; have hfz4_1 := blk_frozen BK328.out 1; have p329 : 0 ≤ (0 : Int) := (by omega); have q329 : 0 < (l0_0.length : Int) := odE; obtain ⟨ad329, A329_0, c329_0, e329, hx329_0, hl329_0, hi329_0⟩ := at_L1 HR0_0.out 0 p329 q329; cases e329; have qi329 : (0 < l0_0.length) = True := eq_true (by omega); (try rw [show ((0 : Int)).toNat = 0 from rfl] at hx329_0); (try rw [Addr.add_zero'] at hx329_0); replace hx329_0 := (HB.out.cell (World.block_lt_of_cell? w _ hx329_0)).trans hx329_0; have HR329_0 := Aside0.mk hi329_0; have HC329_0 := Aside0.mk hl329_0; clear hi329_0 hl329_0; replace p329 := eq_true p329; replace q329 := eq_true q329))
 go_ret
 exact ⟨eqE, mb HB.out⟩
def impl_column.l0 : Nat → Int → List Int → List (List Int) → Int → Int → Option (List Int)
 | 0, _, _, _, _, _ => none
 | k + 1, x1, x5, x9, x10, x11 => if x11 < x10 then (if 0 ≤ x11 then (if x11 < (x9.length : Int) then (if 0 ≤ x1 then (if x1 < ((rd_L1 x9 x11).length : Int) then (if x5.length < 17592186044416 then (impl_column.l0 k x1 (x5 ++ [rd (rd_L1 x9 x11) x1]) x9 x10 (wrap64 (x11 + 1))) else (none)) else (none)) else (none)) else (none)) else (none)) else (some x5)
def impl_column.f (k : Nat) (l0 : List (List Int)) (a1 : Int) : Option (List Int) := impl_column.l0 k a1 (([] : List Int)) l0 (l0.length : Int) 0
theorem impl_column.mono_l : ∀ k, (∀ y0 y1 y2 y3 y4, LeO (impl_column.l0 k y0 y1 y2 y3 y4) (impl_column.l0 (k + 1) y0 y1 y2 y3 y4))
 | 0 => fun _ _ _ _ _ r h => by simp [impl_column.l0] at h
 | k + 1 => by
  have ih0 := impl_column.mono_l k
  ·intro y0 y1 y2 y3 y4
   unfold impl_column.l0
   repeat' first
   | (with_reducible exact ih0 ..)
   | (with_reducible exact LeO.refl _)
   | (with_reducible exact LeO.none _)
   | (with_reducible refine LeO.ite ?_ ?_)
   | (with_reducible refine LeO.bind ?_ (fun _ => ?_))
theorem impl_column.mono : ∀ a0 a1 k, LeO (impl_column.f k a0 a1) (impl_column.f (k + 1) a0 a1) := by
 intro a0 a1 k
 have ih0 := impl_column.mono_l k
 unfold impl_column.f
 repeat' first
   | (with_reducible exact ih0 ..)
   | (with_reducible exact LeO.refl _)
   | (with_reducible exact LeO.none _)
   | (with_reducible refine LeO.ite ?_ ?_)
   | (with_reducible refine LeO.bind ?_ (fun _ => ?_))
theorem impl_column.calls (k : Nat) (A0 : Option Addr) (c0 : Nat) (l0 : List (List Int)) (a1 : Int) (r : List Int) (w : World) (hr0 : Kd.C (Kd.slice 3 (Kd.int .i64)) w A0 l0.length l0) (hc0 : l0.length ≤ c0) (h : impl_column.f k l0 a1 = some r) :
  Calls Try.prog 56 #[.slice A0 l0.length c0, .int .i64 a1] w fun e w' => ∃ v0_ : Value, e = .returned (v0_) ∧ Kd.R (Kd.int .i64) 3 w' w.heap.size (fun _ => True) v0_ r ∧ Below w.heap.size w w' := by
 have HR0 := Aside0.mk hr0
 have HC0 := Aside0.mk hc0
 clear hr0 hc0
 have HB := Aside0.mk (Below.refl w.heap.size w)
 have H : (impl_column.l0 k a1 (([] : List Int)) l0 (l0.length : Int) 0) = some r := h
 clear h
 replace H := nameA (([] : List Int)) (fun y330 => (impl_column.l0 k a1 y330 l0 (l0.length : Int) 0) = some r) H; obtain ⟨y330, Ny330, H⟩ := H
 have H' := Aside0.mk H
 clear H
 go_enter Try.func56, Try.ntmps56
 go_wp2_with (first | ((with_reducible refine gate_dst (N := 8) rfl ?_); refine Kd.R_lit (Kd.int .i64) _ 3 ?hg (N := 8) ?hd (xs := ([] : List Int)) (inner := []) (ok := fun _ => True) (okp := fun _ => True) ?hr ?hp (fun _ hk => hk) trivial (Below.refl _ _) (Nat.le_refl _) (by simp) ?_; (case hd => rfl); (case hg => rfl); (case hr => first | (go_simp; done) | (go_simp; rfl)); (case hp => exact (Reps.none _ _)); intro v331 w3 ho4 hb hg_ hnew_; clear hg_ hnew_; (first | rw [← Ny330.out] at ho4 | (simp only [Int.reduceToNat] at ho4; rw [← Ny330.out] at ho4)); have HO332 := am (Kd.R_lower ho4 (below_size (mb HB.out))); replace HB := am (below_step (mb HB.out) hb); clear hb ho4))
 go_loopg [5, 11] k (fun kq v5 v11 w' => ∃ (x5_1 : List Int) (x11_1 : Int), v11 = .int .i64 x11_1 ∧ Aside0 (impl_column.l0 kq a1 x5_1 l0 (l0.length : Int) x11_1 = some r) ∧ Aside0 (kq ≤ k) ∧ Aside0 (Kd.R (Kd.int .i64) 3 w' w.heap.size (fun _ => True) v5 x5_1) ∧ Aside0 (Below w.heap.size w w'))
 case atStart => exact ⟨(y330), (0), eqF, H', ⟨Nat.le_refl _⟩, ⟨mvR HO332.out⟩, ⟨mb HB.out⟩⟩
 case round =>
  clear H'
  obtain ⟨x5_1, x11_1, rfl, HA, HK1, HO_5, HB⟩ := hrel
  cases gk with
  | zero => exact absurd HA.out (by simp [impl_column.l0])
  | succ k1 =>
   have H := HA.out
   clear HA
   simp only [impl_column.l0] at H
   by_cases c5 : x11_1 < (l0.length : Int)
   rotate_left
   ·rw [if_neg c5] at H
    have c5b0 := decide_eq_false c5
    clear c5
    obtain rfl := Option.some.inj H
    go_wp2
    go_ret
    exact ⟨_, eqE, mvR HO_5.out, mb HB.out⟩
   rw [if_pos c5] at H
   have c5b0 := decide_eq_true c5
   clear c5
   replace H := ifD H; obtain ⟨c6b0, H⟩ := H
   replace H := ifD H; obtain ⟨c7b0, H⟩ := H
   replace H := ifD H; obtain ⟨c8b0, H⟩ := H
   replace H := ifD H; obtain ⟨c9b0, H⟩ := H
   replace H := ifA H; obtain ⟨LMc10, H⟩ := H
   replace H := nameA (x5_1 ++ [rd (rd_L1 l0 x11_1) a1]) (fun y335 => (impl_column.l0 k1 a1 y335 l0 (l0.length : Int) (wrap64 (x11_1 + 1))) = some r) H; obtain ⟨y335, Ny335, H⟩ := H
   have H' := Aside0.mk H
   clear H
   have p333 : 0 ≤ (x11_1 : Int) := odE
   have q333 : x11_1 < (l0.length : Int) := odE
   obtain ⟨ad333, A333_0, c333_0, e333, hx333_0, hl333_0, hi333_0⟩ := at_L1 HR0.out x11_1 p333 q333
   cases e333
   replace hx333_0 := (HB.out.cell (World.block_lt_of_cell? w _ hx333_0)).trans hx333_0
   have HR333_0 := Aside0.mk hi333_0
   have HC333_0 := Aside0.mk hl333_0
   clear hi333_0 hl333_0
   replace p333 := eq_true p333
   replace q333 := eq_true q333
   have p334 : 0 ≤ (a1 : Int) := odE
   have q334 : a1 < ((rd_L1 l0 x11_1).length : Int) := odE
   obtain ⟨ad334, e334, hx334_0⟩ := Kd.at_int HR333_0.out a1 p334 q334
   cases e334
   replace hx334_0 := (HB.out.cell (World.block_lt_of_cell? w _ hx334_0)).trans hx334_0
   replace p334 := eq_true p334
   replace q334 := eq_true q334
   go_wp2_with (first | ((with_reducible refine gate_builtin (b := .append) (xs := #[.tmp 15, .tmp 20]) rfl ?_); at_builtin; refine Kd.R_append (Kd.int .i64) (w0 := w) w.heap.size rfl (.tmp 15) (.tmp 20) 38 3 (.int .i64 0) 8 rfl Try.underlying38 info3 rfl (by decide) (by omega) u5 x5_1 (rd (rd_L1 l0 x11_1) a1) [.int .i64 (rd (rd_L1 l0 x11_1) a1)] (fun _ => True) (fun _ => False) rfl rfl ?aP (fun _ hk => hk.elim) ?aF ?aO ?aB ?aS ?aL ?_; (case aP => exact rfl); (case aB => exact (mb HB.out)); (case aF => exact (fun _ _ => trivial)); (case aO => exact (mvR HO_5.out)); (case aS => exact (below_size (mb HB.out))); (case aL => have := LMc10.out; omega); intro v336 w11 ho hb hg hat; rw [← Ny335.out] at ho; replace HB := am (hb); have HO337 := am (ho); clear HO_5; clear ho hb hg hat))
   go_roundg k1
   case measure => have := HK1.out; omega
   case rel => exact ⟨(y335), (wrap64 (x11_1 + 1)), eqF, H', ⟨by have := HK1.out; omega⟩, ⟨mvR HO337.out⟩, ⟨mb HB.out⟩⟩
def impl_payC.f (k : Nat) (j : Int) (l0 l1 : List (List Int)) : Option (List Int) := impl_column.f k l1 j
theorem impl_payC.mono : ∀ j l0 l1 k, LeO (impl_payC.f k j l0 l1) (impl_payC.f (k + 1) j l0 l1) := fun j l0 l1 k => impl_column.mono _ _ _
theorem impl_payC.calls (k : Nat) (a0 : Int) (G : Nat) (A0 : Option Addr) (c0 : Nat) (l0 : List (List Int)) (A1 : Option Addr) (c1 : Nat) (l1 : List (List Int)) (r : List Int) (w : World) (hx0 : w.cell? ⟨G, 0, none⟩ = some (.slice A0 l0.length c0)) (hr0 : Kd.C (Kd.slice 3 (Kd.int .i64)) w A0 l0.length l0) (hc0 : l0.length ≤ c0) (hx1 : w.cell? ⟨G, 1, none⟩ = some (.slice A1 l1.length c1)) (hr1 : Kd.C (Kd.slice 3 (Kd.int .i64)) w A1 l1.length l1) (hc1 : l1.length ≤ c1) (h : impl_payC.f k a0 l0 l1 = some r) :
  Calls Try.prog 55 #[.int .i64 a0, .pointer (some ⟨G, 0, none⟩)] w fun e w' => ∃ v0_ : Value, e = .returned (v0_) ∧ Kd.R (Kd.int .i64) 3 w' w.heap.size (fun _ => True) v0_ r ∧ Below w.heap.size w w' := by
 have hcon := impl_column.calls k A1 c1 l1 a0 r w hr1 hc1 h
 have hg : Try.prog.underlying 28 = _ := Try.underlying28
 clear hx0 hr0 hc0 hr1 hc1 h
 go_enter Try.func55, Try.ntmps55
 go_wp2_with (go_at_call 56; refine hcon.mono ?_; rintro e w' ⟨v0, rfl, ho, hb⟩)
 go_ret
 exact ⟨_, rfl, ho, hb⟩
def slices_Clone_int_int.f (l0 : List Int) : Option (List Int) := if l0.length < 17592186044416 then some l0 else none
@[go_sem] theorem clone_eql (A : Option Addr) (n c : Nat) (w : World) : (binOp .eql 38 (.slice A n c) (.slice none 0 0)).run Try.prog w = .ok (.bool A.isNone) w := by
 have h : ∀ d : Nat, (Op.equalIn (d + 1) 38 (.slice A n c) (.slice none 0 0)).run Try.prog w = .ok A.isNone w := fun d => by
  cases A <;> simp [Op.equalIn, run_underlying Try.underlying38]
 simp only [binOp]
 simp [Op.equal, Op.maxDepth, h 9999]
set_option maxHeartbeats 4000000 in
theorem slices_Clone_int_int.calls (A0 : Option Addr) (c0 : Nat) (l0 : List Int) (r : List Int) (w : World) (hr0 : Kd.C (Kd.int .i64) w A0 l0.length l0) (hc0 : l0.length ≤ c0) (h : slices_Clone_int_int.f l0 = some r) :
  Calls Try.prog 58 #[.slice A0 l0.length c0] w fun e w' => ∃ v0_ : Value, e = .returned (v0_) ∧ Kd.R (Kd.int .i64) 3 w' w.heap.size (fun _ => True) v0_ r ∧ Below w.heap.size w w' := by
 unfold slices_Clone_int_int.f at h
 by_cases hlim : l0.length < 17592186044416
 rotate_left
 ·rw [if_neg hlim] at h
  exact absurd h (by simp)
 rw [if_pos hlim] at h
 obtain rfl := Option.some.inj h
 clear h
 rcases A0 with _ | a
 ·have hz : l0 = [] := by
   rcases Nat.eq_zero_or_pos l0.length with h0 | h0
   ·exact List.eq_nil_of_length_eq_zero h0
   ·obtain ⟨ad, e, -⟩ := hr0.2.2 h0
    cases e
  subst hz
  have HB := Aside0.mk (Below.refl w.heap.size w)
  clear hr0
  go_enter Try.func58, Try.ntmps58
  go_wp2
  go_ret
  exact ⟨_, rfl, Kd.R_nil _ _ _ _ _, HB.out⟩
 ·have HR0 := Aside0.mk hr0
  have HL := Aside0.mk hlim
  have HC0 := Aside0.mk hc0
  clear hr0 hc0 hlim
  have HB := Aside0.mk (Below.refl w.heap.size w)
  go_enter Try.func58, Try.ntmps58
  go_wp2_with (first
   | ((with_reducible refine gate_dst (N := 5) rfl ?_); refine Kd.R_lit (Kd.int .i64) _ 3 ?hg (N := 5) ?hd (xs := ([] : List Int)) (inner := []) (ok := fun _ => True) (okp := fun _ => True) ?hr ?hp (fun _ hk => hk) trivial (Below.refl _ _) (Nat.le_refl _) (by simp) ?_; (case hd => rfl); (case hg => rfl); (case hr => first | (go_simp; done) | (go_simp; rfl)); (case hp => exact (Reps.none _ _)); intro v252 w3 ho4 hb hg_ hnew_; clear hg_ hnew_; (try simp only [Int.reduceToNat] at ho4); have HO253 := am (Kd.R_lower ho4 (below_size (mb HB.out))); replace HB := am (below_step (mb HB.out) hb); clear hb ho4)
   | ((with_reducible refine gate_builtin (b := .append) (xs := #[.tmp 5, .tmp 6]) rfl ?_); at_builtin; refine Kd.R_append_rows (Kd.int .i64) (w0 := w) w.heap.size rfl (.tmp 5) (.tmp 6) 38 3 (.int .i64 0) 8 rfl Try.underlying38 info3 rfl (by decide) (by omega) v252 ([] : List Int) l0 _ _ _ (fun _ => True) (fun _ => False) rfl rfl ?aO ?aR (fun _ _ h => h) (fun _ h => h.elim) ?aF ?aB ?aS ?aL ?_; (case aR => repeat (first | exact (Kd.C_below HR0.out HB.out) | (with_reducible refine Kd.C_alloc ?_ _) | (with_reducible refine Kd.C_drewN ?_ _) | (with_reducible refine Kd.C_drew ?_))); (case aB => exact (mb HB.out)); (case aF => exact (fun _ _ => trivial)); (case aO => exact (mvR HO253.out)); (case aS => exact (below_size (mb HB.out))); (case aL => have := HL.out; simp only [List.length_nil]; omega); intro v255 w5 ho hb hg hat; rw [List.nil_append] at ho; replace HB := am (hb); have HO256 := am (ho); clear HO253; clear ho hb hg hat))
  go_ret
  exact ⟨_, by first | rfl | (simp [errW_none, errW_some] <;> rfl), mvR HO256.out, mb HB.out⟩
def impl_payR.f (j : Int) (l0 l1 : List (List Int)) : Option (List Int) := if 0 ≤ j ∧ j < (l0.length : Int) then slices_Clone_int_int.f (l0.getD j.toNat []) else none
theorem impl_payR.calls (a0 : Int) (G : Nat) (A0 : Option Addr) (c0 : Nat) (l0 : List (List Int)) (A1 : Option Addr) (c1 : Nat) (l1 : List (List Int)) (r : List Int) (w : World) (hx0 : w.cell? ⟨G, 0, none⟩ = some (.slice A0 l0.length c0)) (hr0 : Kd.C (Kd.slice 3 (Kd.int .i64)) w A0 l0.length l0) (hc0 : l0.length ≤ c0) (hx1 : w.cell? ⟨G, 1, none⟩ = some (.slice A1 l1.length c1)) (hr1 : Kd.C (Kd.slice 3 (Kd.int .i64)) w A1 l1.length l1) (hc1 : l1.length ≤ c1) (h : impl_payR.f a0 l0 l1 = some r) :
  Calls Try.prog 57 #[.int .i64 a0, .pointer (some ⟨G, 0, none⟩)] w fun e w' => ∃ v0_ : Value, e = .returned (v0_) ∧ Kd.R (Kd.int .i64) 3 w' w.heap.size (fun _ => True) v0_ r ∧ Below w.heap.size w w' := by
 unfold impl_payR.f at h
 by_cases hc : 0 ≤ a0 ∧ a0 < (l0.length : Int)
 rotate_left
 ·rw [if_neg hc] at h
  cases h
 rw [if_pos hc] at h
 obtain ⟨h0, h1⟩ := hc
 obtain ⟨ad, cs, e2, _, hK, hx2⟩ := Kd.C_get hr0 ([] : List Int) a0 h0 h1
 cases e2
 obtain ⟨A2, c2, rfl, hl2, hi2⟩ := hK
 replace hx2 := hx2 0 _ rfl
 rw [show (Kd.slice 3 (Kd.int .i64)).sz = 1 from rfl, Nat.mul_one, Nat.add_zero] at hx2
 have hcon := slices_Clone_int_int.calls A2 c2 (l0.getD a0.toNat []) r w hi2 hl2 h
 generalize l0.getD a0.toNat [] = row_ at hx2 hcon
 have q := eq_true h0
 have q2 := eq_true h1
 clear hr0 hc0 hr1 hc1 h hl2 hi2 h0 h1
 go_enter Try.func57, Try.ntmps57
 go_wp2_with (go_at_call 58; refine hcon.mono ?_; rintro e w' ⟨v0, rfl, ho, hb⟩)
 go_ret
 exact ⟨_, rfl, ho, hb⟩
def impl_sure.f (a0 : Int) (a1 : Int) : Option (List Int) := if 0 ≤ a1 then (if (a1 : Int).toNat ≤ 35184372088832 then ((some (List.replicate (a1 : Int).toNat 0 : List Int)).bind fun y338 => (if 0 ≤ a0 then (if a0 < (y338.length : Int) then (some (y338.set (a0 : Int).toNat 1)) else (none)) else (none))) else (none)) else (none)
theorem impl_sure.calls (a0 : Int) (a1 : Int) (r : List Int) (w : World) (h : impl_sure.f a0 a1 = some r) :
  Calls Try.prog 59 #[.int .i64 a0, .int .i64 a1] w fun e w' => ∃ v0_ : Value, e = .returned (v0_) ∧ Kd.R (Kd.int .i64) 3 w' w.heap.size (fun _ => True) v0_ r ∧ Below w.heap.size w w' := by
 have HB := Aside0.mk (Below.refl w.heap.size w)
 have H : (if 0 ≤ a1 then (if (a1 : Int).toNat ≤ 35184372088832 then ((some (List.replicate (a1 : Int).toNat 0 : List Int)).bind fun y338 => (if 0 ≤ a0 then (if a0 < (y338.length : Int) then (some (y338.set (a0 : Int).toNat 1)) else (none)) else (none))) else (none)) else (none)) = some r := h
 clear h
 by_cases c3 : 0 ≤ a1
 rotate_left
 ·rw [if_neg c3] at H
  exact absurd H (by simp)
 rw [if_pos c3] at H
 have c3b0 := eq_true c3
 have c3b1 := decide_eq_true c3
 clear c3
 replace H := ifP H; obtain ⟨c4, H⟩ := H
 have c4b0 := eq_true c4
 have c4b1 := decide_eq_true c4
 clear c4
 replace H := nameA (List.replicate (a1 : Int).toNat 0) (fun y338 => (if 0 ≤ a0 then (if a0 < (y338.length : Int) then (some (y338.set (a0 : Int).toNat 1)) else (none)) else (none)) = some r) H; obtain ⟨y338, Ny338, H⟩ := H
 replace H := ifD H; obtain ⟨c5b0, H⟩ := H
 replace H := ifD H; obtain ⟨c6b0, H⟩ := H
 replace H := nameA (y338.set (a0 : Int).toNat 1) (fun y341 => (some y341) = some r) H; obtain ⟨y341, Ny341, H⟩ := H
 obtain rfl := Option.some.inj H
 go_enter Try.func59, Try.ntmps59
 go_wp2_with (first | ((with_reducible refine gate_dst (N := 7) rfl ?_); refine Kd.R_make (Kd.int .i64) _ 3 rfl (N := 7) rfl 38 _ _ rfl a1 rfl rfl Try.underlying38 (.int .i64 0) 8 info3 rfl (by decide) (by omega) 0 (ok := fun _ => True) (okp := fun _ => True) rfl (fun _ hk => hk) trivial (odE) (Nat.le_trans (Nat.mul_le_mul_right _ (odE : a1.toNat ≤ 35184372088832)) (by omega)) (Below.refl _ _) (Nat.le_refl _) ?_; intro v339 w8 ho9 hb hg_ hnew_; clear hg_ hnew_; (first | rw [← Ny338.out] at ho9 | (simp only [Int.reduceToNat] at ho9; rw [← Ny338.out] at ho9)); have HO340 := am (Kd.R_lower ho9 (below_size (mb HB.out))); replace HB := am (below_step (mb HB.out) hb); clear hb ho9; have p7 : 0 ≤ (a0 : Int) := odE; have q7 : (a0 : Int) < ((y338.length : Int) : Int) := odE; obtain ⟨go7, co7, eo7, gb7, gl7, cl7, HG7⟩ := Kd.R_form HO340.out (by omega); (first | cases eo7 | (injection eo7 with ea_ en_ ec_; (first | subst ea_ | (injection ea_ with ea_; subst ea_)); subst ec_; clear en_)); have GB7 := Aside0.mk gb7; have GG7 := Aside0.mk HG7; clear gb7 gl7 HG7; obtain ⟨hx7_0, hf7_0⟩ := Kd.R_celln 0 HO340.out (a0 : Int) p7 q7; replace p7 := eq_true p7; replace q7 := eq_true q7; obtain ⟨hy10_, hz10_⟩ := Kd.R_celln 0 HO340.out (a0 : Int) (odE) (odE); have HP10 := Kd.R_putg HO340.out (a0 : Int) 1) | ((with_reducible refine gate_store (t := 3) (p := 10) rfl ?_); refine store_event (t := 3) (p := 10) (v := ?vo_w11) (w1 := (w8.setCell ⟨go7, (a0 : Int).toNat, none⟩ (.int .i64 1))) ?hg ?ho ?hn ?hr ?_; (case ho => rfl); (case hg => rfl); (case hn => rfl); (case hr => first | (go_simp; done) | (go_simp; rfl)); intro w11 hw; have hg : w8.grownBy w11 (some go7) := (by rw [hw]; exact HP10.2); have hp_ : Kd.R (Kd.int .i64) 3 w11 w.heap.size (fun _ => True) (.slice (some ⟨go7, 0, none⟩) y338.length co7) y341 := (by rw [hw, Ny341.out]; exact HP10.1); clear HP10; replace HO340 := am (hp_); replace HB := am ((by rw [hw]; exact below_set (HB.out) GB7.out : Below w.heap.size w w11)); clear hg hw hp_))
 go_ret
 exact ⟨_, eqE, mvR HO340.out, mb HB.out⟩
end Go.Proofs.Ytggiicplcglalaa.All
end
