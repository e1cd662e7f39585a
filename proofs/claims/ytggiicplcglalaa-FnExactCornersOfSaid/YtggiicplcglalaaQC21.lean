/- Part of the proof that the law FnExactCornersOf answers true for all arguments. -/
import Derived.Test.YtggiicplcglalaaQC16
import Derived.Test.YtggiicplcglalaaQC20
namespace Go.Proofs.Ytggiicplcglalaa.All
open Go.RowKit Go.Proofs.YtggiicplcglalaaW.PrintWords Go.Proofs.YtggiicplcglalaaW.PrintLast Go.Proofs.YtggiicplcglalaaW.PrintMore
attribute [local go_sem] max2_int min2_int max_two min_two max_three min_three max_four min_four
set_option linter.unusedVariables false
set_option linter.unusedSimpArgs false
section
variable {α : Type} [Inhabited α]
def keptTo (d : Array α) (p : Nat → Bool) (m : Nat) : List α := ((List.range m).filter p).map (d[·]!)
theorem keptTo_succ (d : Array α) (p : Nat → Bool) (m : Nat) : keptTo d p (m + 1) = keptTo d p m ++ (if p m then [d[m]!] else []) := by
 unfold keptTo
 rw [List.range_succ, List.filter_append, List.map_append]
 congr 1
 by_cases h : p m <;> simp [h]
theorem keptTo_all (d : Array α) (p : Nat → Bool) (m : Nat) (h : ∀ j, j < m → p j = true) : keptTo d p m = (List.range m).map (d[·]!) := by
 unfold keptTo
 rw [List.filter_eq_self.2 (fun j hj => h j (List.mem_range.1 hj))]
structure KInv (d : Array α) (p : Nat → Bool) (m k : Nat) (dk : Array α) : Prop where
 size : dk.size = d.size
 len : (keptTo d p m).length = k
 lt : k < m
 low : ∀ j, j < k → (keptTo d p m)[j]? = some dk[j]!
 high : ∀ j, k ≤ j → dk[j]! = d[j]!
open Go.Sort in
theorem KInv.start {d : Array α} {p : Nat → Bool} {k0 : Nat} (hall : ∀ j, j < k0 → p j = true) (hdup : p k0 = false) : KInv d p (k0 + 1) k0 d where
 size := rfl
 len := by rw [keptTo_succ, hdup, keptTo_all d p k0 hall]; simp
 lt := Nat.lt_succ_self _
 low := fun j hj => by rw [keptTo_succ, hdup, keptTo_all d p k0 hall]; simp [hj]
 high := fun _ _ => rfl
open Go.Sort in
theorem KInv.keep {d dk : Array α} {p : Nat → Bool} {m k : Nat} (h : KInv d p m k dk) (hm : m < d.size) (hk : p m = true) : KInv d p (m + 1) (k + 1) (dk.setIfInBounds k d[m]!) where
 size := by simp [h.size]
 len := by rw [keptTo_succ, hk]; simp [h.len]
 lt := by have := h.lt; omega
 low := fun j hj => by
  rw [keptTo_succ, hk, if_pos rfl]
  by_cases e : j = k
  rotate_left
  ·rw [List.getElem?_append_left (by rw [h.len]; omega), h.low j (by omega), getElem!_set_other dk k j _ e]
  subst e
  rw [List.getElem?_append_right (by rw [h.len]; exact Nat.le_refl _), h.len, Nat.sub_self, getElem!_set_same dk j _ (by have := h.lt; have := h.size; omega)]
  rfl
 high := fun j hj => by rw [getElem!_set_other dk k j _ (by omega), h.high j (by omega)]
theorem KInv.skip {d dk : Array α} {p : Nat → Bool} {m k : Nat} (h : KInv d p m k dk) (hk : p m = false) : KInv d p (m + 1) k dk where
 size := h.size
 len := by rw [keptTo_succ, hk]; simpa using h.len
 lt := by have := h.lt; omega
 low := fun j hj => by rw [keptTo_succ, hk]; simpa using h.low j hj
 high := h.high
open Go.Sort Go.Lib in
theorem KInv.done {d dk : Array α} {p : Nat → Bool} {k : Nat} (h : KInv d p d.size k dk) (z : α) :
  lay dk k (List.replicate (d.size - k) z) = (keptTo d p d.size ++ List.replicate (d.size - k) z).toArray := by
 have hk := h.lt
 have hs := h.size
 apply Array.ext_getElem?
 intro j
 rw [lay_get? _ _ _ _ (by simp; omega), show (keptTo d p d.size ++ List.replicate (d.size - k) z).toArray[j]? = (keptTo d p d.size ++ List.replicate (d.size - k) z)[j]? from List.getElem?_toArray]
 simp only [List.length_replicate]
 by_cases c : j < k
 ·rw [if_neg (by omega), List.getElem?_append_left (by rw [h.len]; exact c), h.low j c, getElem!_pos dk j (by omega), Array.getElem?_eq_getElem]
 rw [List.getElem?_append_right (by rw [h.len]; omega), h.len]
 by_cases c2 : j < d.size
 ·rw [if_pos (by omega)]
 rw [if_neg (by omega), Array.getElem?_eq_none (by omega), List.getElem?_eq_none (by simp; omega)]
open Go.Sort Go.Lib in
set_option maxHeartbeats 8000000 in
set_option maxRecDepth 1000000 in
theorem compactFuncA (enc : α → Value) (hO : OneCell enc) (g : Nat) (cb : Array Value) (eg : ∀ args w, (callFunc g args).run Try.prog w = .ok (.enter g args) w) (p : Nat → Bool) (zr : α) (hzr : enc zr = .slice none 0 0) (q : α → α → Bool) (blk off cap : Nat) (d : Array α) (w : World)
  (hp0 : p 0 = true) (hp : ∀ j, 1 ≤ j → j < d.size → p j = !q d[j]! d[j - 1]!)
  (hq : ∀ (m : Nat) (dk : Array α), dk.size = d.size → ∀ x y : α, Calls Try.prog g (#[enc x, enc y] ++ cb) (putRow enc (Sort.ahead w m) blk off dk) fun e w' => e = .returned (.bool (q x y)) ∧ ∃ nd, w' = (putRow enc (Sort.ahead w m) blk off dk).drewN nd)
  (hH : Holds enc w blk off d) (hsz : d.size ≤ 9223372036854775807) (hcap : d.size ≤ cap) :
  Calls Try.prog 69 #[.slice (some ⟨blk, off, none⟩) d.size cap, .func (.func g) #[] cb] w fun e w' => e = .returned (.slice (some ⟨blk, off, none⟩) (keptTo d p d.size).length cap) ∧ ∃ n, w' = putRow enc (Sort.ahead w n) blk off (keptTo d p d.size ++ List.replicate (d.size - (keptTo d p d.size).length) zr).toArray := by
 have hcl0 := hO.cells
 simp only [Value.cells] at hcl0
 have hst := hO.store Try.prog
 have t22 := Try.underlying22
 have v23 : ∀ w, (zeroValue 38).run Try.prog w = .ok (enc zr) w := fun w => by rw [hzr]; exact Try.zeroValue38 w
 have same : ∀ n wr, wr = putRow enc (Sort.ahead w n) blk off d → (∀ j, j < d.size → p j = true) → (keptTo d p d.size).length = d.size ∧ wr = putRow enc (Sort.ahead w n) blk off (keptTo d p d.size ++ List.replicate (d.size - (keptTo d p d.size).length) zr).toArray := by
  intro n wr hw hall
  have e : keptTo d p d.size = d.toList := by rw [keptTo_all d p _ hall, range_map_get]
  rw [e]
  refine ⟨by simp, ?_⟩
  rw [hw]
  simp
 have HS := Aside0.mk same
 have HQ := Aside0.mk hq
 have HP := Aside0.mk hp
 have HH := Aside0.mk hH
 have HSTART := Aside0.mk (show w = putRow enc (Sort.ahead w 0) blk off d from (putRow_self enc (Sort.ahead w 0) blk off d (holds_ahead enc w 0 blk off d hH)).symm)
 clear same hq hp hH
 by_cases h2 : d.size < 2
 ·have hall : ∀ j, j < d.size → p j = true := fun j hj => by
   have : j = 0 := by omega
   subst this; exact hp0
  go_enter Try.func69, Try.ntmps69
  go_wp2
  go_ret
  obtain ⟨e1, e2⟩ := HS.out 0 w HSTART.out hall
  exact ⟨by rw [e1]; rfl, 0, e2⟩
 go_enter Try.func69, Try.ntmps69
 go_wp2
 go_loopg [5] d.size (fun gg s3 wr => ∃ k n : Nat, 1 ≤ k ∧ k ≤ d.size ∧ d.size - k ≤ gg ∧ s3 = .int .i64 k ∧ Aside0 (wr = putRow enc (Sort.ahead w n) blk off d) ∧ Aside0 (∀ j, j < k → p j = true))
 case atStart => exact ⟨1, 0, Nat.le_refl _, by omega, by omega, rfl, HSTART, ⟨fun j hj => (by omega : (0 : Nat) = j) ▸ hp0⟩⟩
 case round =>
  obtain ⟨k, n, hk1, hk, hg, rfl, W1, A1⟩ := hrel
  by_cases hlt : k < d.size
  rotate_left
  ·have : k = d.size := by omega
   subst this
   go_wp2
   go_ret
   obtain ⟨e1, e2⟩ := HS.out n wr W1.out A1.out
   exact ⟨by rw [e1]; rfl, n, e2⟩
  have hHr : Holds enc wr blk off d := by rw [W1.out]; exact holds_putRow enc _ blk off d d (holds_ahead enc w n blk off d HH.out) rfl
  obtain ⟨c1, f1⟩ := hHr k hlt
  obtain ⟨c0, f0⟩ := hHr (k - 1) (by omega)
  have hpk := HP.out k hk1 hlt
  have hcall : ∀ nq, Calls Try.prog g (#[enc d[k]!, enc d[k - 1]!] ++ cb) (wr.drewN nq) fun e w' => e = .returned (.bool (q d[k]! d[k - 1]!)) ∧ ∃ m, w' = (wr.drewN nq).drewN m := fun nq => by
   rw [W1.out, putRow_drewN]
   exact HQ.out (n + nq) d rfl _ _
  clear hHr
  generalize hx : d[k]! = x at c1 hcall hpk
  generalize hy : d[k - 1]! = y at c0 hcall hpk
  clear hx hy
  have HC := Aside0.mk hcall
  clear hcall
  cases hqv : q x y with
  | true =>
   rw [hqv] at HC hpk
   have PK := Aside0.mk hpk
   clear hpk hqv
   go_wp2_with fail
   go_quiet ((go_at_fn g; exact Calls.quiet_of (HC.out _)))
   go_wp2
   have W2 := Aside0.mk (show wr.drewN nq = putRow enc (Sort.ahead w (n + nq)) blk off d by rw [W1.out, putRow_drewN])
   clear c0 c1 f0 f1 W1 HC
   generalize wr.drewN nq = wr2 at W2 ⊢
   go_loopg [5, 7] d.size (fun gg s3 s5 wr => ∃ (kk k2 q2 : Nat) (dk : Array α), s3 = .int .i64 kk ∧ s5 = .int .i64 k2 ∧ 1 ≤ k2 ∧ k + k2 ≤ d.size ∧ d.size - (k + k2) ≤ gg ∧ Aside0 (wr = putRow enc (Sort.ahead w q2) blk off dk) ∧ Aside0 (KInv d p (k + k2) kk dk))
   case atStart => exact ⟨k, 1, n + nq, d, rfl, rfl, Nat.le_refl _, by omega, by omega, W2, ⟨KInv.start A1.out PK.out⟩⟩
   case round =>
    clear W2
    obtain ⟨kk, k2, q2, dk, rfl, rfl, h1, hle, hg2, W3, I2⟩ := hrel
    have hkk := I2.out.lt
    have hds := I2.out.size
    have hHk : Holds enc wr blk off dk := by rw [W3.out]; exact holds_putRow enc _ blk off d dk (holds_ahead enc w q2 blk off d HH.out) hds
    by_cases hlt2 : k + k2 < d.size
    rotate_left
    ·have hend : k + k2 = d.size := by omega
     have hcl : ∀ ty, (Builtin.clear_ #[22] ty #[.slice (some ⟨blk, off + kk, none⟩) (d.size - kk) (cap - kk)]).run Try.prog wr = .ok (.tuple #[]) (wr.setCells blk (off + kk) (List.replicate (d.size - kk) (enc zr))) :=
      fun ty => Lib.run_clear_slice wr _ _ ty _ t22 v23 (hO.cells zr) (hO zr) blk (off + kk) _ _ (by omega) (fun j hj => by rw [show off + kk + j = off + (kk + j) by omega, (hHk (kk + j) (by omega)).1]; rfl) (fun j hj => by rw [show off + kk + j = off + (kk + j) by omega]; exact (hHk (kk + j) (by omega)).2)
     clear hHk
     go_wp2
     go_ret
     have hI := I2.out
     rw [hend] at hI
     refine ⟨by rw [hI.len]; rfl, q2, ?_⟩
     rw [hI.len, ← hI.done zr, ← putRow_setCells enc _ blk off _ dk kk (by simp; omega), ← W3.out, List.map_replicate, hzr]
    obtain ⟨cm, _⟩ := hHk (k + k2) (by omega)
    obtain ⟨cp, _⟩ := hHk (k + k2 - 1) (by omega)
    obtain ⟨ck, fk⟩ := hHk kk (by omega)
    rw [I2.out.high (k + k2) (by omega), show off + (k + k2) = off + k + k2 by omega] at cm
    rw [I2.out.high (k + k2 - 1) (by omega), show off + (k + k2 - 1) = off + k + (k2 - 1) by omega] at cp
    have hpk := HP.out (k + k2) (by omega) hlt2
    have hcall : ∀ nq, Calls Try.prog g (#[enc d[k + k2]!, enc d[k + k2 - 1]!] ++ cb) (wr.drewN nq) fun e w' => e = .returned (.bool (q d[k + k2]! d[k + k2 - 1]!)) ∧ ∃ m, w' = (wr.drewN nq).drewN m := fun nq => by
     rw [W3.out, putRow_drewN]
     exact HQ.out (q2 + nq) dk hds _ _
    clear hHk
    generalize hu : d[k + k2]! = u at cm hcall hpk
    generalize hv : d[k + k2 - 1]! = v at cp hcall hpk
    generalize dk[kk]! = old at ck
    have C := Aside0.mk hu
    clear hu hv
    have HC := Aside0.mk hcall
    clear hcall
    cases hqv : q u v with
    | true =>
     rw [hqv] at HC hpk
     have PK2 := Aside0.mk hpk
     clear hpk hqv
     go_wp2_with fail
     go_quiet ((go_at_fn g; exact Calls.quiet_of (HC.out _)))
     go_wp2
     go_roundg (d.size - (k + (k2 + 1)))
     case measure => omega
     case rel => exact ⟨kk, k2 + 1, q2 + nq, dk, rfl, by go_num, by omega, by omega, Nat.le_refl _, ⟨by rw [W3.out, putRow_drewN]⟩, ⟨I2.out.skip PK2.out⟩⟩
    | false =>
     rw [hqv] at HC hpk
     have PK2 := Aside0.mk hpk
     clear hpk hqv
     go_wp2_with fail
     go_quiet ((go_at_fn g; exact Calls.quiet_of (HC.out _)))
     go_wp2
     go_roundg (d.size - (k + (k2 + 1)))
     case measure => omega
     case rel => exact ⟨kk + 1, k2 + 1, q2 + nq, dk.setIfInBounds kk u, by go_num, by go_num, by omega, by omega, Nat.le_refl _, ⟨by rw [W3.out, putRow_drewN, putRow_set enc _ blk off dk kk u (by omega)]⟩, ⟨by have := I2.out.keep hlt2 PK2.out; rwa [C.out] at this⟩⟩
  | false =>
   rw [hqv] at HC hpk
   have PK := Aside0.mk hpk
   clear hpk hqv
   go_wp2_with fail
   go_quiet ((go_at_fn g; exact Calls.quiet_of (HC.out _)))
   go_wp2
   go_roundg (d.size - (k + 1))
   case measure => omega
   case rel =>
    refine ⟨k + 1, n + nq, by omega, by omega, Nat.le_refl _, by go_num, ⟨by rw [W1.out, putRow_drewN]⟩, ⟨fun j hj => ?_⟩⟩
    by_cases e : j = k
    ·subst e; exact PK.out
    exact A1.out j (by omega)
end
theorem equal_l0 (x y : List Int) (hx : x.length ≤ 9223372036854775807) (hl : x.length = y.length) : ∀ (d i : Nat), x.length - i ≤ d → i ≤ x.length → slices_Equal_int_int.l0 (d + 1) x y (x.length : Int) (i : Int) = some (decide (x.drop i = y.drop i)) := by
 intro d
 induction d with
 | zero =>
  intro i h1 h2
  have e : i = x.length := by omega
  simp only [slices_Equal_int_int.l0]
  rw [if_neg (by omega), List.drop_eq_nil_of_le (by omega), List.drop_eq_nil_of_le (by omega)]
  simp
 | succ d ih =>
  intro i h1 h2
  by_cases c : i < x.length
  rotate_left
  ·have e : i = x.length := by omega
   simp only [slices_Equal_int_int.l0]
   rw [if_neg (by omega), List.drop_eq_nil_of_le (by omega), List.drop_eq_nil_of_le (by omega)]
   simp
  rw [slices_Equal_int_int.l0]
  have hw : wrap64 ((i : Int) + 1) = ((i + 1 : Nat) : Int) := by unfold wrap64; omega
  rw [if_pos (by omega), if_pos (by omega), if_pos (by omega), if_pos (by omega), hw, ih (i + 1) (by omega) (by omega), rd_drop x i c, rd_drop y i (by omega)]
  by_cases c3 : rd x i = rd y i
  ·rw [if_pos c3]; simp [c3]
  rw [if_neg c3]; simp [c3]
theorem equal_is (x y : List Int) (hx : x.length ≤ 9223372036854775807) : slices_Equal_int_int.f (x.length + 1) x y = some (decide (x = y)) := by
 unfold slices_Equal_int_int.f
 by_cases c : x.length = y.length
 rotate_left
 ·rw [if_neg (by omega)]
  have : x ≠ y := fun e => c (by rw [e])
  simp [this]
 rw [if_pos (by omega)]
 have := equal_l0 x y hx c x.length 0 (by omega) (by omega)
 simpa using this
theorem comp_ok (d : Array (List Int)) (p : Nat → Bool) (hp0 : p 0 = true) (hp : ∀ j, 1 ≤ j → j < d.size → p j = !decide (d[j]! = d[j - 1]!)) (hs : ∀ j, 1 ≤ j → j < d.size → ¬ cmpL d[j]! d[j - 1]! < 0) :
  ∀ m, m ≤ d.size → (keptTo d p m).Pairwise (fun a b => cmpL a b < 0) ∧ (1 ≤ m → ∀ z, z ∈ keptTo d p m → ¬ cmpL d[m - 1]! z < 0) ∧ (∀ j, j < m → d[j]! ∈ keptTo d p m) := by
 intro m
 induction m with
 | zero => intro _; exact ⟨by simp [keptTo], by omega, by omega⟩
 | succ m ih =>
  intro hm
  obtain ⟨i1, i2, i3⟩ := ih (by omega)
  rw [keptTo_succ]
  by_cases m0 : m = 0
  ·subst m0
   rw [hp0]
   refine ⟨by simp [keptTo], fun _ z hz => ?_, fun j hj => ?_⟩
   ·have : z = d[0]! := by simpa [keptTo] using hz
    rw [this]; exact cmpL_lt_irrefl _
   ·obtain rfl : j = 0 := by omega
    simp
  have hpm := hp m (by omega) (by omega)
  have hsm := hs m (by omega) (by omega)
  by_cases e : d[m]! = d[m - 1]!
  ·rw [hpm, decide_eq_true e]
   simp only [Bool.not_true, Bool.false_eq_true, if_false, List.append_nil, Nat.add_sub_cancel]
   refine ⟨i1, fun _ z hz => by rw [e]; exact i2 (by omega) z hz, fun j hj => ?_⟩
   by_cases ej : j = m
   rotate_left
   ·exact i3 j (by omega)
   subst ej; rw [e]; exact i3 (j - 1) (by omega)
  rw [hpm, decide_eq_false e]
  simp only [Bool.not_false, if_true, Nat.add_sub_cancel]
  have hlt : cmpL d[m - 1]! d[m]! < 0 := by
   by_cases c : cmpL d[m - 1]! d[m]! < 0
   ·exact c
   exact absurd (cmpL_eq hsm c) e
  have hz' : ∀ z, z ∈ keptTo d p m → cmpL z d[m]! < 0 := by
   intro z hz
   by_cases c : cmpL z d[m - 1]! < 0
   ·exact cmpL_lt_trans c hlt
   have : z = d[m - 1]! := cmpL_eq c (i2 (by omega) z hz)
   rw [this]; exact hlt
  refine ⟨?_, fun _ z hz => ?_, fun j hj => ?_⟩
  ·rw [List.pairwise_append]
   refine ⟨i1, by simp, fun a ha b hb => ?_⟩
   obtain rfl : b = d[m]! := by simpa using hb
   exact hz' a ha
  ·rw [List.mem_append] at hz
   rcases hz with hz | hz
   ·intro c; exact cmpL_lt_irrefl _ (cmpL_lt_trans (hz' z hz) c)
   ·obtain rfl : z = d[m]! := by simpa using hz
    exact cmpL_lt_irrefl _
  ·rw [List.mem_append]
   by_cases ej : j = m
   rotate_left
   ·exact .inl (i3 j (by omega))
   subst ej; exact .inr (by simp)
theorem keptTo_map {α : Type} [Inhabited α] (d : Array α) (t : α → List Int) (p : Nat → Bool) : (keptTo d p d.size).map t = keptTo (d.map t) p (d.map t).size := by
 unfold keptTo
 rw [List.map_map, Array.size_map]
 apply List.map_congr_left
 intro j hj
 have hj' : j < d.size := by
  have := (List.mem_filter.1 hj).1
  exact List.mem_range.1 this
 show t d[j]! = (d.map t)[j]!
 rw [getElem!_pos d j hj', getElem!_pos (d.map t) j (by simpa using hj')]
 simp
open Go.Sort Go.Lib in
theorem keptTo_sub {α : Type} [Inhabited α] (d : Array α) (p : Nat → Bool) : (keptTo d p d.size).Sublist d.toList := by
 unfold keptTo
 have e : (List.range d.size).map (d[·]!) = d.toList := range_map_get d
 exact e ▸ (List.filter_sublist (p := p) (l := List.range d.size)).map (d[·]!)
open Go.Sort in
theorem compactFuncS {v : Value} {xs : List (List Int)} {w0 w : World} {ok : Nat → Prop} (hB : Go.RowKit.Below w0.heap.size w0 w) (ho : Kd.S (Kd.slice 3 (Kd.int .i64)) 38 w w0.heap.size ok v xs) (hne : xs ≠ []) (hlm : xs.length < 4611686018427387904) (hso : xs.Pairwise (fun a b => ¬ cmpL b a < 0)) :
    Calls Try.prog 69 #[v, .func (.func 39) #[] #[]] w fun e w' => ∃ (v' : Value) (zs : List (List Int)), e = .returned v' ∧ zs.Pairwise (fun a b => cmpL a b < 0) ∧ (∀ z, z ∈ zs ↔ z ∈ xs) ∧ Kd.S (Kd.slice 3 (Kd.int .i64)) 38 w' w0.heap.size ok v' zs ∧ Go.RowKit.Below w0.heap.size w0 w' := by
  obtain ⟨f, g, cap, cur, d, rfl, hbase, hok, hheap, h1, h2, h3, h4, h5, h6⟩ := S_open ho hne
  have hdl : d.length = xs.length := by have := congrArg List.length h5; simpa using this
  have hlt : g < w.heap.size := (Array.getElem?_eq_some_iff.1 hheap).1
  have hH : Holds (fun x : RowAt w w0.heap.size (fun k => ok k ∧ k ≠ g) f => x.v) w g 0 d.toArray := holds_block _ hheap (by rw [hdl]; exact h4)
  have hmaxl : ∀ x : RowAt w w0.heap.size (fun k => ok k ∧ k ≠ g) f, x.l.length ≤ 9223372036854775807 := fun x => by
    obtain ⟨A, c, _, _, hr⟩ := x.reads (W := w) (fun _ _ _ => rfl)
    exact hr.2.1
  have hcon := compactFuncA (fun x : RowAt w w0.heap.size (fun k => ok k ∧ k ≠ g) f => x.v) (fun x => x.one) 39 #[] (enters_of Try.func39 (by kernel_rfl) rfl)
    (fun j => decide (j = 0) || !decide ((d.toArray[j]!).l = (d.toArray[j - 1]!).l)) default rfl (fun x y => decide (x.l = y.l)) g 0 cap d.toArray w (by simp)
    (fun j hj _ => by have : j ≠ 0 := by omega
                      simp [this])
    (fun m dk hs x y => by
      have hW : ∀ k, (ok k ∧ k ≠ g) → k < w.heap.size → (putRow (fun x : RowAt w w0.heap.size (fun k => ok k ∧ k ≠ g) f => x.v) (Sort.ahead w m) g 0 dk).heap[k]? = w.heap[k]? := fun k hk hl => by
        have := (grown_put (fun x : RowAt w w0.heap.size (fun k => ok k ∧ k ≠ g) f => x.v) (w := w) (g := g) (n := m) (os := #[]) dk).block k hl (fun e_ => hk.2 (by injection e_))
        rwa [grow_empty] at this
      obtain ⟨A, c, e1, l1, r1⟩ := x.reads hW
      obtain ⟨A', c', e2, l2, r2⟩ := y.reads hW
      have hc := slices_Equal_int_int.calls _ A c x.l A' c' y.l _ _ r1 l1 r2 l2 (equal_is x.l y.l (hmaxl x))
      simp only [e1, e2]
      refine Calls.mono hc ?_
      rintro e w' ⟨he, ⟨nd, hw⟩⟩
      exact ⟨he, nd, hw⟩)
    hH (by simp only [List.size_toArray]; omega) (by simp only [List.size_toArray]; omega)
  simp only [List.size_toArray, hdl] at hcon
  refine hcon.mono ?_
  rintro e w' ⟨rfl, n, rfl⟩
  generalize hpp : (fun j => decide (j = 0) || !decide ((d.toArray[j]!).l = (d.toArray[j - 1]!).l)) = p at *
  have hsub : (keptTo d.toArray p xs.length).Sublist d := by have := keptTo_sub d.toArray p; simpa [hdl] using this
  generalize hkt : keptTo d.toArray p xs.length = ks at *
  have hkl : ks.length ≤ xs.length := by rw [← hdl]; exact hsub.length_le
  have hmap : ks.map (·.l) = keptTo xs.toArray p xs.toArray.size := by
    have := keptTo_map d.toArray (·.l) p
    rw [show d.toArray.map (·.l) = xs.toArray by rw [← h5]; simp, show d.toArray.size = xs.length by simpa using hdl, hkt] at this
    exact this
  have hel : ∀ j, j < xs.length → (d.toArray[j]!).l = xs.toArray[j]! := fun j hj => by
    rw [getElem!_pos d.toArray j (by simpa [hdl] using hj), getElem!_pos xs.toArray j (by simpa using hj)]
    simp [← h5]
  have hok' := comp_ok xs.toArray p (by rw [← hpp]; simp) (fun j hj hl => by
      have h0 : j ≠ 0 := by omega
      have hl' : j < xs.length := by simpa using hl
      rw [← hpp]
      simp only [decide_eq_false h0, Bool.false_or]
      rw [hel j hl', hel (j - 1) (by omega)]) (fun j hj hl => by
      have hl' : j < xs.length := by simpa using hl
      rw [getElem!_pos xs.toArray j hl, getElem!_pos xs.toArray (j - 1) (by omega)]
      exact List.pairwise_iff_getElem.1 hso (j - 1) j (by omega) hl' (by omega)) xs.toArray.size (Nat.le_refl _)
  have hgr := grown_put (fun x : RowAt w w0.heap.size (fun k => ok k ∧ k ≠ g) f => x.v) (w := w) (g := g) (n := n) (os := #[]) (ks ++ List.replicate (xs.length - ks.length) default).toArray
  have hhp := heap_put (fun x : RowAt w w0.heap.size (fun k => ok k ∧ k ≠ g) f => x.v) (n := n) (os := #[]) (ks ++ List.replicate (xs.length - ks.length) default).toArray hheap
  rw [grow_empty] at hgr hhp
  refine ⟨_, ks.map (·.l), rfl, by rw [hmap]; exact hok'.1, fun z => ⟨fun hz => ?_, fun hz => ?_⟩, ?_, hB.grown hgr hB.size (fun k hk => by cases hk; exact hbase)⟩
  · rw [← h5]
    obtain ⟨x, hx, rfl⟩ := List.mem_map.1 hz
    exact List.mem_map.2 ⟨x, hsub.subset hx, rfl⟩
  · obtain ⟨j, hj, rfl⟩ := List.getElem_of_mem hz
    rw [hmap]
    have := hok'.2.2 j (by simpa using hj)
    rwa [getElem!_pos xs.toArray j (by simpa using hj)] at this
  · refine S_close ks ?_ hok hbase hhp (by omega) h2 (by simp [putCells, h3]) ?_ (fun k hk hlt => hgr.block k hlt (fun e_ => hk (by injection e_)))
    · have hn : (d.map (·.i)).Nodup := by rw [h6]; exact List.nodup_range
      exact (hsub.map (·.i)).nodup hn
    · have hlen : (ks ++ List.replicate (xs.length - ks.length) (default : RowAt w w0.heap.size (fun k => ok k ∧ k ≠ g) f)).length = xs.length := by simp; omega
      have := take_put (fun x : RowAt w w0.heap.size (fun k => ok k ∧ k ≠ g) f => x.v) cur (ks ++ List.replicate (xs.length - ks.length) default) (by rw [hlen, h3]; omega)
      rw [hlen, List.map_append] at this
      have h2 := congrArg (List.take ks.length) this
      rw [List.take_take, Nat.min_eq_left hkl, List.take_left' (by simp)] at h2
      exact h2
def putU (x : List Int) : List (List Int) → List (List Int)
 | [] => [x]
 | y :: l => if cmpL x y < 0 then x :: y :: l else if cmpL y x < 0 then y :: putU x l else y :: l
def sortUniq (xs : List (List Int)) : List (List Int) := xs.foldr putU []
theorem putU_mem (x z : List Int) : ∀ l, z ∈ putU x l ↔ z = x ∨ z ∈ l
 | [] => by simp [putU]
 | y :: l => by
  simp only [putU]
  split
  ·simp
  ·split
   ·simp only [List.mem_cons, putU_mem x z l]
    constructor
    ·rintro (h | h | h) <;> simp [h]
    ·rintro (h | h | h) <;> simp [h]
   ·have : x = y := cmpL_eq (by assumption) (by assumption)
    subst this
    simp
theorem putU_sorted (x : List Int) : ∀ l, l.Pairwise (fun a b => cmpL a b < 0) → (putU x l).Pairwise (fun a b => cmpL a b < 0)
 | [], _ => by simp [putU]
 | y :: l, h => by
  simp only [putU]
  rw [List.pairwise_cons] at h
  split
  ·rename_i c
   refine List.Pairwise.cons (fun z hz => ?_) (List.Pairwise.cons h.1 h.2)
   rcases List.mem_cons.1 hz with rfl | hz
   ·exact c
   ·exact cmpL_lt_trans c (h.1 z hz)
  ·split
   ·rename_i c
    refine List.Pairwise.cons (fun z hz => ?_) (putU_sorted x l h.2)
    rcases (putU_mem x z l).1 hz with rfl | hz
    ·exact c
    ·exact h.1 z hz
   ·exact List.Pairwise.cons h.1 h.2
theorem sortUniq_mem (z : List Int) : ∀ xs : List (List Int), z ∈ sortUniq xs ↔ z ∈ xs
 | [] => by simp [sortUniq]
 | x :: xs => by
  show z ∈ putU x (sortUniq xs) ↔ _
  rw [putU_mem, sortUniq_mem z xs, List.mem_cons]
theorem sortUniq_sorted : ∀ xs : List (List Int), (sortUniq xs).Pairwise (fun a b => cmpL a b < 0)
 | [] => by simp [sortUniq]
 | x :: xs => putU_sorted x _ (sortUniq_sorted xs)
theorem strict_one : ∀ {a b : List (List Int)}, a.Pairwise (fun a b => cmpL a b < 0) → b.Pairwise (fun a b => cmpL a b < 0) → (∀ z, z ∈ a ↔ z ∈ b) → a = b
 | [], [], _, _, _ => rfl
 | [], y :: b, _, _, h => by have := (h y).2 (by simp); simp at this
 | x :: a, [], _, _, h => by have := (h x).1 (by simp); simp at this
 | x :: a, y :: b, ha, hb, h => by
  rw [List.pairwise_cons] at ha hb
  have e : x = y := by
   rcases List.mem_cons.1 ((h x).1 (by simp)) with e | e
   ·exact e
   ·rcases List.mem_cons.1 ((h y).2 (by simp)) with e2 | e2
    ·exact e2.symm
    ·exact absurd (cmpL_lt_trans (ha.1 y e2) (hb.1 x e)) (cmpL_lt_irrefl _)
  subst e
  rw [strict_one ha.2 hb.2 (fun z => ?_)]
  have hz := h z
  simp only [List.mem_cons] at hz
  constructor
  ·intro c
   rcases hz.1 (.inr c) with e | e
   ·subst e; exact absurd (ha.1 _ c) (cmpL_lt_irrefl _)
   ·exact e
  ·intro c
   rcases hz.2 (.inr c) with e | e
   ·subst e; exact absurd (hb.1 _ c) (cmpL_lt_irrefl _)
   ·exact e
theorem sortUniq_of {xs ys zs : List (List Int)} (hp : ys.Perm xs) (hs : zs.Pairwise (fun a b => cmpL a b < 0)) (hm : ∀ z, z ∈ zs ↔ z ∈ ys) : zs = sortUniq xs :=
 strict_one hs (sortUniq_sorted xs) (fun z => by rw [hm, sortUniq_mem, hp.mem_iff])
end Go.Proofs.Ytggiicplcglalaa.All
